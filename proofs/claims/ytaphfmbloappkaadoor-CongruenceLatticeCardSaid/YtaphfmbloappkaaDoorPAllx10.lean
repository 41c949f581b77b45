-- The walks of some functions, printed by a program for this claim.
import Derived.Test.YtaphfmbloappkaaDoorPAllx0
import Derived.Test.YtaphfmbloappkaaDoorPAllx1
import Derived.Test.YtaphfmbloappkaaDoorPAllx2
import Derived.Test.YtaphfmbloappkaaDoorPAllx4
import Derived.Test.YtaphfmbloappkaaDoorPAllx5
import Derived.Test.YtaphfmbloappkaaDoorPAllx7
import Derived.Test.YtaphfmbloappkaaDoorPAllx9
namespace Go.Proofs.YtaphfmbloappkaaDoorG.PAll
open Go.RowKit Go.Proofs.YtaphfmbloappkaaDoorW.PrintWords Go.Proofs.YtaphfmbloappkaaDoorW.PrintLast Go.Proofs.YtaphfmbloappkaaDoorW.PrintMore
attribute [local go_sem] max2_int min2_int max_two min_two max_three min_three max_four min_four   -- for this text's walks alone
set_option linter.unusedVariables false
set_option linter.unusedSimpArgs false

attribute [local go_sem high] eqA25
/-! ### timeboundlaw08_CongruenceLattice: function 7 -/
mutual
def timeboundlaw08_CongruenceLattice.j0 : Nat → Int → Bool → Int → Int → Int → Int → Int → Int → Int → Int → Option (Bool)
  | 0, _, _, _, _, _, _, _, _, _, _ => none
  | k + 1, x4, x72, x291000, x291001, x292000, x292001, x298000, x298001, x299000, x299001 => if x72 = true then (none) else (if x291000 ≥ 0 then ((timeboundlaw08_member.f x291000 x291001 ((x4) % 4294967296)).bind fun t306 => (timeboundlaw08_CongruenceLattice.j1 k t306 x291000 x291001 x292000 x292001 x298000 x298001 x299000 x299001)) else (timeboundlaw08_CongruenceLattice.j1 k (wrap64 (x4)) x291000 x291001 x292000 x292001 x298000 x298001 x299000 x299001))
def timeboundlaw08_CongruenceLattice.j1 : Nat → Int → Int → Int → Int → Int → Int → Int → Int → Int → Option (Bool)
  | 0, _, _, _, _, _, _, _, _, _ => none
  | k + 1, x16, x291000, x291001, x292000, x292001, x298000, x298001, x299000, x299001 => (congruence_Has.f k x291000 x291001 x16).bind fun t307 => (if t307 = true then ((congruence_Has.f k x292000 x292001 x16).bind fun t308 => ((congruence_Has.f k x299000 x299001 x16).bind fun t309 => (if (t308 == t309) = true then ((congruence_Join.f k x292000 x292001 x291000 x291001).bind fun bt310 => (if (bt310.1 == x298000 && (bt310.2 == x298001)) = true then ((congruence_Leq.f k x291000 x291001 x291000 x291001).bind fun t312 => (if t312 = true then ((timeboundlaw08_awake.f k).bind fun t313 => (some t313)) else (none))) else (none))) else (none)))) else ((congruence_Has.f k x299000 x299001 x16).bind fun t314 => (if (false == t314) = true then ((congruence_Join.f k x292000 x292001 x291000 x291001).bind fun bt315 => (if (bt315.1 == x298000 && (bt315.2 == x298001)) = true then ((congruence_Leq.f k x291000 x291001 x291000 x291001).bind fun t317 => (if t317 = true then ((timeboundlaw08_awake.f k).bind fun t318 => (some t318)) else (none))) else (none))) else (none))))
end
def timeboundlaw08_CongruenceLattice.f (k : Nat) (a0 : Int) (a1 : Int) (a2 : Int) (a3_0 : Int) (a3_1 : Int) (a3_2 : Int) (a4 : Int) : Option (Bool) := (timeboundlaw08_of.f a0 a3_0).bind fun bt284 => ((timeboundlaw08_of.f a1 a3_1).bind fun bt286 => ((timeboundlaw08_of.f a2 a3_2).bind fun bt288 => ((congruence_Join.f k bt284.1 bt284.2 bt286.1 bt286.2).bind fun bt293 => ((congruence_Meet.f k bt284.1 bt284.2 bt286.1 bt286.2).bind fun bt295 => ((congruence_Leq.f k bt284.1 bt284.2 bt293.1 bt293.2).bind fun t299 => (if t299 = true then ((congruence_Leq.f k bt286.1 bt286.2 bt293.1 bt293.2).bind fun t300 => (if t300 = true then ((congruence_Leq.f k bt295.1 bt295.2 bt284.1 bt284.2).bind fun t301 => (if t301 = true then ((congruence_Leq.f k bt295.1 bt295.2 bt286.1 bt286.2).bind fun t302 => (if t302 = true then ((congruence_Leq.f k bt284.1 bt284.2 bt288.1 bt288.2).bind fun t303 => (if t303 = true then ((congruence_Leq.f k bt286.1 bt286.2 bt288.1 bt288.2).bind fun t304 => (if t304 = true then ((congruence_Leq.f k bt293.1 bt293.2 bt288.1 bt288.2).bind fun t305 => (timeboundlaw08_CongruenceLattice.j0 k a4 (!t305) bt284.1 bt284.2 bt286.1 bt286.2 bt293.1 bt293.2 bt295.1 bt295.2)) else (timeboundlaw08_CongruenceLattice.j0 k a4 false bt284.1 bt284.2 bt286.1 bt286.2 bt293.1 bt293.2 bt295.1 bt295.2))) else (timeboundlaw08_CongruenceLattice.j0 k a4 false bt284.1 bt284.2 bt286.1 bt286.2 bt293.1 bt293.2 bt295.1 bt295.2))) else (none))) else (none))) else (none))) else (none)))))))
theorem timeboundlaw08_CongruenceLattice.mono_l : ∀ k, (∀ y0 y1 y2 y3 y4 y5 y6 y7 y8 y9, LeO (timeboundlaw08_CongruenceLattice.j0 k y0 y1 y2 y3 y4 y5 y6 y7 y8 y9) (timeboundlaw08_CongruenceLattice.j0 (k + 1) y0 y1 y2 y3 y4 y5 y6 y7 y8 y9)) ∧ (∀ y0 y1 y2 y3 y4 y5 y6 y7 y8, LeO (timeboundlaw08_CongruenceLattice.j1 k y0 y1 y2 y3 y4 y5 y6 y7 y8) (timeboundlaw08_CongruenceLattice.j1 (k + 1) y0 y1 y2 y3 y4 y5 y6 y7 y8))
  | 0 => ⟨fun _ _ _ _ _ _ _ _ _ _ r h => by simp [timeboundlaw08_CongruenceLattice.j0] at h, fun _ _ _ _ _ _ _ _ _ r h => by simp [timeboundlaw08_CongruenceLattice.j1] at h⟩
  | k + 1 => by
    obtain ⟨ih0, ih1⟩ := timeboundlaw08_CongruenceLattice.mono_l k
    refine ⟨?_, ?_⟩
    · intro y0 y1 y2 y3 y4 y5 y6 y7 y8 y9
      unfold timeboundlaw08_CongruenceLattice.j0
      repeat' first
      | (with_reducible exact ih0 _ _ _ _ _ _ _ _ _ _)
      | (with_reducible exact ih1 _ _ _ _ _ _ _ _ _)
      | (with_reducible exact congruence_Has.mono _ _ _ _)
      | (with_reducible exact congruence_Join.mono _ _ _ _ _)
      | (with_reducible exact congruence_Leq.mono _ _ _ _ _)
      | (with_reducible exact congruence_Meet.mono _ _ _ _ _)
      | (with_reducible exact timeboundlaw08_awake.mono _)
      | (with_reducible exact LeO.refl _)
      | (with_reducible exact LeO.none _)
      | (with_reducible refine LeO.ite ?_ ?_)
      | (with_reducible refine LeO.bind ?_ (fun _ => ?_))
      | exact ih0 _ _ _ _ _ _ _ _ _ _
      | exact ih1 _ _ _ _ _ _ _ _ _
      | exact congruence_Has.mono _ _ _ _
      | exact congruence_Join.mono _ _ _ _ _
      | exact congruence_Leq.mono _ _ _ _ _
      | exact congruence_Meet.mono _ _ _ _ _
      | exact timeboundlaw08_awake.mono _
      | exact LeO.none _
      | refine LeO.ite ?_ ?_
      | refine LeO.bind ?_ (fun _ => ?_)
    · intro y0 y1 y2 y3 y4 y5 y6 y7 y8
      unfold timeboundlaw08_CongruenceLattice.j1
      repeat' first
      | (with_reducible exact ih0 _ _ _ _ _ _ _ _ _ _)
      | (with_reducible exact ih1 _ _ _ _ _ _ _ _ _)
      | (with_reducible exact congruence_Has.mono _ _ _ _)
      | (with_reducible exact congruence_Join.mono _ _ _ _ _)
      | (with_reducible exact congruence_Leq.mono _ _ _ _ _)
      | (with_reducible exact congruence_Meet.mono _ _ _ _ _)
      | (with_reducible exact timeboundlaw08_awake.mono _)
      | (with_reducible exact LeO.refl _)
      | (with_reducible exact LeO.none _)
      | (with_reducible refine LeO.ite ?_ ?_)
      | (with_reducible refine LeO.bind ?_ (fun _ => ?_))
      | exact ih0 _ _ _ _ _ _ _ _ _ _
      | exact ih1 _ _ _ _ _ _ _ _ _
      | exact congruence_Has.mono _ _ _ _
      | exact congruence_Join.mono _ _ _ _ _
      | exact congruence_Leq.mono _ _ _ _ _
      | exact congruence_Meet.mono _ _ _ _ _
      | exact timeboundlaw08_awake.mono _
      | exact LeO.none _
      | refine LeO.ite ?_ ?_
      | refine LeO.bind ?_ (fun _ => ?_)
theorem timeboundlaw08_CongruenceLattice.mono : ∀ a0 a1 a2 a3 a4 a5 a6 k, LeO (timeboundlaw08_CongruenceLattice.f k a0 a1 a2 a3 a4 a5 a6) (timeboundlaw08_CongruenceLattice.f (k + 1) a0 a1 a2 a3 a4 a5 a6) := by
  intro a0 a1 a2 a3 a4 a5 a6 k
  obtain ⟨ih0, ih1⟩ := timeboundlaw08_CongruenceLattice.mono_l k
  unfold timeboundlaw08_CongruenceLattice.f
  repeat' first
      | (with_reducible exact ih0 _ _ _ _ _ _ _ _ _ _)
      | (with_reducible exact ih1 _ _ _ _ _ _ _ _ _)
      | (with_reducible exact congruence_Has.mono _ _ _ _)
      | (with_reducible exact congruence_Join.mono _ _ _ _ _)
      | (with_reducible exact congruence_Leq.mono _ _ _ _ _)
      | (with_reducible exact congruence_Meet.mono _ _ _ _ _)
      | (with_reducible exact timeboundlaw08_awake.mono _)
      | (with_reducible exact LeO.refl _)
      | (with_reducible exact LeO.none _)
      | (with_reducible refine LeO.ite ?_ ?_)
      | (with_reducible refine LeO.bind ?_ (fun _ => ?_))
      | exact ih0 _ _ _ _ _ _ _ _ _ _
      | exact ih1 _ _ _ _ _ _ _ _ _
      | exact congruence_Has.mono _ _ _ _
      | exact congruence_Join.mono _ _ _ _ _
      | exact congruence_Leq.mono _ _ _ _ _
      | exact congruence_Meet.mono _ _ _ _ _
      | exact timeboundlaw08_awake.mono _
      | exact LeO.none _
      | refine LeO.ite ?_ ?_
      | refine LeO.bind ?_ (fun _ => ?_)
def timeboundlaw08_CongruenceLattice.T1 : Bool × List (List Nat × List Nat) := (true, [([], []), ([], []), ([1], [1]), ([0, 2], [0, 2]), ([], []), ([], []), ([5], [5]), ([4, 6, 3], [4, 6]), ([], []), ([], []), ([9], [9]), ([8, 10, 7], [8, 10]), ([], []), ([], []), ([], []), ([12, 3, 11, 0, 1, 2, 3, 12, 13, 14], [3, 12]), ([13, 7, 15, 0, 1, 2, 3, 4, 5, 6, 7, 12, 13, 14, 15], [7, 13]), ([14, 11, 16, 0, 1, 2, 3, 4, 5, 6, 7, 8, 9, 10, 11, 12, 13, 14, 15, 16], [11, 14])])
def timeboundlaw08_CongruenceLattice.B1 : List Nat := [0, 0, 2, 7, 0, 0, 32, 127, 0, 0, 512, 2047, 0, 0, 0, 32767, 65535, 131071]
theorem timeboundlaw08_CongruenceLattice.tab1 : rtab .any (opsOf Tryd.f7 1) = timeboundlaw08_CongruenceLattice.T1 := by kernel_rfl
theorem timeboundlaw08_CongruenceLattice.bits1 : waitsOk timeboundlaw08_CongruenceLattice.T1.2 timeboundlaw08_CongruenceLattice.B1 = true := by kernel_rfl
def timeboundlaw08_CongruenceLattice.T2 : Bool × List (List Nat × List Nat) := (true, [([], []), ([], []), ([0, 1], [0, 1]), ([], []), ([], []), ([3, 4, 2], [3, 4]), ([], []), ([], []), ([6, 2, 5, 0, 1, 2, 6, 7], [2, 6]), ([7, 5, 8, 0, 1, 2, 3, 4, 5, 6, 7, 8], [5, 7])])
def timeboundlaw08_CongruenceLattice.B2 : List Nat := [0, 0, 3, 0, 0, 31, 0, 0, 255, 511]
theorem timeboundlaw08_CongruenceLattice.tab2 : rtab .any (opsOf Tryd.f7 2) = timeboundlaw08_CongruenceLattice.T2 := by kernel_rfl
theorem timeboundlaw08_CongruenceLattice.bits2 : waitsOk timeboundlaw08_CongruenceLattice.T2.2 timeboundlaw08_CongruenceLattice.B2 = true := by kernel_rfl
def timeboundlaw08_CongruenceLattice.T8 : Bool × List (List Nat × List Nat) := (true, [([], []), ([], []), ([0, 1], [0, 1]), ([2, 2], [2]), ([3], [3]), ([3], [3]), ([4, 5, 3, 3], [3, 4, 5]), ([3, 6], [3, 6]), ([], []), ([], []), ([8, 9, 6], [8, 9]), ([7, 10], [7, 10]), ([11, 10], [11]), ([12], [12]), ([12], [12]), ([13, 14, 12, 12], [12, 13, 14]), ([12], [12]), ([15, 16, 12], [12, 15, 16]), ([12, 17], [12, 17]), ([18, 15], [18]), ([19], [19]), ([19], [19]), ([20, 21, 19, 19], [19, 20, 21]), ([19, 22], [19, 22]), ([23, 22], [23]), ([24, 24], [24]), ([24, 25], [24, 25]), ([26, 25, 0, 1, 2, 3, 4, 5, 6, 7, 8, 9, 10, 11, 12, 13, 14, 15, 16, 17, 18, 19, 20, 21, 22, 23, 24, 25, 26], [26])])
def timeboundlaw08_CongruenceLattice.B8 : List Nat := [0, 0, 3, 7, 15, 15, 63, 127, 0, 0, 895, 2047, 4095, 8191, 8191, 32767, 8191, 131071, 262143, 524287, 1048575, 1048575, 4194303, 8388607, 16777215, 33554431, 67108863, 134217727]
theorem timeboundlaw08_CongruenceLattice.tab8 : rtab .any (opsOf Tryd.f7 8) = timeboundlaw08_CongruenceLattice.T8 := by kernel_rfl
theorem timeboundlaw08_CongruenceLattice.bits8 : waitsOk timeboundlaw08_CongruenceLattice.T8.2 timeboundlaw08_CongruenceLattice.B8 = true := by kernel_rfl
abbrev Y : Bool := true
abbrev Z : Bool := false
theorem sA {α : Type} (l : List α) (i : Nat) (a : α) : l.toArray.setIfInBounds i a = (l.set i a).toArray := by simp
theorem sB {α : Type} (x : α) (l : List α) (a : α) : (x :: l).set 0 a = a :: l := rfl
theorem sC {α : Type} (x : α) (l : List α) (n : Nat) (a : α) : (x :: l).set (n + 1) a = x :: l.set n a := rfl
set_option maxHeartbeats 80000000 in
set_option maxRecDepth 100000 in
theorem timeboundlaw08_CongruenceLattice.calls (k : Nat) (a0 : Int) (a1 : Int) (a2 : Int) (a3_0 : Int) (a3_1 : Int) (a3_2 : Int) (a4 : Int) (r : Bool) (w : World) (h : timeboundlaw08_CongruenceLattice.f k a0 a1 a2 a3_0 a3_1 a3_2 a4 = some r) (hT0 : Go.Proofs.YtaphfmbloappkaaDoor.TabOK w) :
    Calls Tryd.prog 7 #[.int .i32 a0, .int .i32 a1, .int .i32 a2, .agg #[.int .u8 a3_0, .int .u8 a3_1, .int .u8 a3_2], .int .i32 a4] w fun e w' => e = .returned (.bool r) ∧ Below w.heap.size w w' := by
  have hT := Aside0.mk hT0
  clear hT0
  have hu42 := Tryd.underlying42
  have hu25 := Tryd.underlying25
  have HB := Aside0.mk (Below.refl w.heap.size w)
  have H : ((timeboundlaw08_of.f a0 a3_0).bind fun bt284 => ((timeboundlaw08_of.f a1 a3_1).bind fun bt286 => ((timeboundlaw08_of.f a2 a3_2).bind fun bt288 => ((congruence_Join.f k bt284.1 bt284.2 bt286.1 bt286.2).bind fun bt293 => ((congruence_Meet.f k bt284.1 bt284.2 bt286.1 bt286.2).bind fun bt295 => ((congruence_Leq.f k bt284.1 bt284.2 bt293.1 bt293.2).bind fun t299 => (if t299 = true then ((congruence_Leq.f k bt286.1 bt286.2 bt293.1 bt293.2).bind fun t300 => (if t300 = true then ((congruence_Leq.f k bt295.1 bt295.2 bt284.1 bt284.2).bind fun t301 => (if t301 = true then ((congruence_Leq.f k bt295.1 bt295.2 bt286.1 bt286.2).bind fun t302 => (if t302 = true then ((congruence_Leq.f k bt284.1 bt284.2 bt288.1 bt288.2).bind fun t303 => (if t303 = true then ((congruence_Leq.f k bt286.1 bt286.2 bt288.1 bt288.2).bind fun t304 => (if t304 = true then ((congruence_Leq.f k bt293.1 bt293.2 bt288.1 bt288.2).bind fun t305 => (timeboundlaw08_CongruenceLattice.j0 k a4 (!t305) bt284.1 bt284.2 bt286.1 bt286.2 bt293.1 bt293.2 bt295.1 bt295.2)) else (timeboundlaw08_CongruenceLattice.j0 k a4 false bt284.1 bt284.2 bt286.1 bt286.2 bt293.1 bt293.2 bt295.1 bt295.2))) else (timeboundlaw08_CongruenceLattice.j0 k a4 false bt284.1 bt284.2 bt286.1 bt286.2 bt293.1 bt293.2 bt295.1 bt295.2))) else (none))) else (none))) else (none))) else (none)))))))) = some r := h
  clear h
  replace H := Option.bind_eq_some_iff.mp H
  obtain ⟨⟨t284, t285⟩, A60, H⟩ := H
  replace H : ((timeboundlaw08_of.f a1 a3_1).bind fun bt286 => ((timeboundlaw08_of.f a2 a3_2).bind fun bt288 => ((congruence_Join.f k t284 t285 bt286.1 bt286.2).bind fun bt293 => ((congruence_Meet.f k t284 t285 bt286.1 bt286.2).bind fun bt295 => ((congruence_Leq.f k t284 t285 bt293.1 bt293.2).bind fun t299 => (if t299 = true then ((congruence_Leq.f k bt286.1 bt286.2 bt293.1 bt293.2).bind fun t300 => (if t300 = true then ((congruence_Leq.f k bt295.1 bt295.2 t284 t285).bind fun t301 => (if t301 = true then ((congruence_Leq.f k bt295.1 bt295.2 bt286.1 bt286.2).bind fun t302 => (if t302 = true then ((congruence_Leq.f k t284 t285 bt288.1 bt288.2).bind fun t303 => (if t303 = true then ((congruence_Leq.f k bt286.1 bt286.2 bt288.1 bt288.2).bind fun t304 => (if t304 = true then ((congruence_Leq.f k bt293.1 bt293.2 bt288.1 bt288.2).bind fun t305 => (timeboundlaw08_CongruenceLattice.j0 k a4 (!t305) t284 t285 bt286.1 bt286.2 bt293.1 bt293.2 bt295.1 bt295.2)) else (timeboundlaw08_CongruenceLattice.j0 k a4 false t284 t285 bt286.1 bt286.2 bt293.1 bt293.2 bt295.1 bt295.2))) else (timeboundlaw08_CongruenceLattice.j0 k a4 false t284 t285 bt286.1 bt286.2 bt293.1 bt293.2 bt295.1 bt295.2))) else (none))) else (none))) else (none))) else (none))))))) = some r := H
  have A6 := Aside0.mk A60
  clear A60
  replace H := Option.bind_eq_some_iff.mp H
  obtain ⟨⟨t286, t287⟩, A70, H⟩ := H
  replace H : ((timeboundlaw08_of.f a2 a3_2).bind fun bt288 => ((congruence_Join.f k t284 t285 t286 t287).bind fun bt293 => ((congruence_Meet.f k t284 t285 t286 t287).bind fun bt295 => ((congruence_Leq.f k t284 t285 bt293.1 bt293.2).bind fun t299 => (if t299 = true then ((congruence_Leq.f k t286 t287 bt293.1 bt293.2).bind fun t300 => (if t300 = true then ((congruence_Leq.f k bt295.1 bt295.2 t284 t285).bind fun t301 => (if t301 = true then ((congruence_Leq.f k bt295.1 bt295.2 t286 t287).bind fun t302 => (if t302 = true then ((congruence_Leq.f k t284 t285 bt288.1 bt288.2).bind fun t303 => (if t303 = true then ((congruence_Leq.f k t286 t287 bt288.1 bt288.2).bind fun t304 => (if t304 = true then ((congruence_Leq.f k bt293.1 bt293.2 bt288.1 bt288.2).bind fun t305 => (timeboundlaw08_CongruenceLattice.j0 k a4 (!t305) t284 t285 t286 t287 bt293.1 bt293.2 bt295.1 bt295.2)) else (timeboundlaw08_CongruenceLattice.j0 k a4 false t284 t285 t286 t287 bt293.1 bt293.2 bt295.1 bt295.2))) else (timeboundlaw08_CongruenceLattice.j0 k a4 false t284 t285 t286 t287 bt293.1 bt293.2 bt295.1 bt295.2))) else (none))) else (none))) else (none))) else (none)))))) = some r := H
  have A7 := Aside0.mk A70
  clear A70
  replace H := Option.bind_eq_some_iff.mp H
  obtain ⟨⟨t288, t289⟩, A80, H⟩ := H
  replace H : ((congruence_Join.f k t284 t285 t286 t287).bind fun bt293 => ((congruence_Meet.f k t284 t285 t286 t287).bind fun bt295 => ((congruence_Leq.f k t284 t285 bt293.1 bt293.2).bind fun t299 => (if t299 = true then ((congruence_Leq.f k t286 t287 bt293.1 bt293.2).bind fun t300 => (if t300 = true then ((congruence_Leq.f k bt295.1 bt295.2 t284 t285).bind fun t301 => (if t301 = true then ((congruence_Leq.f k bt295.1 bt295.2 t286 t287).bind fun t302 => (if t302 = true then ((congruence_Leq.f k t284 t285 t288 t289).bind fun t303 => (if t303 = true then ((congruence_Leq.f k t286 t287 t288 t289).bind fun t304 => (if t304 = true then ((congruence_Leq.f k bt293.1 bt293.2 t288 t289).bind fun t305 => (timeboundlaw08_CongruenceLattice.j0 k a4 (!t305) t284 t285 t286 t287 bt293.1 bt293.2 bt295.1 bt295.2)) else (timeboundlaw08_CongruenceLattice.j0 k a4 false t284 t285 t286 t287 bt293.1 bt293.2 bt295.1 bt295.2))) else (timeboundlaw08_CongruenceLattice.j0 k a4 false t284 t285 t286 t287 bt293.1 bt293.2 bt295.1 bt295.2))) else (none))) else (none))) else (none))) else (none))))) = some r := H
  have A8 := Aside0.mk A80
  clear A80
  replace H := Option.bind_eq_some_iff.mp H
  obtain ⟨⟨t293, t294⟩, A90, H⟩ := H
  replace H : ((congruence_Meet.f k t284 t285 t286 t287).bind fun bt295 => ((congruence_Leq.f k t284 t285 t293 t294).bind fun t299 => (if t299 = true then ((congruence_Leq.f k t286 t287 t293 t294).bind fun t300 => (if t300 = true then ((congruence_Leq.f k bt295.1 bt295.2 t284 t285).bind fun t301 => (if t301 = true then ((congruence_Leq.f k bt295.1 bt295.2 t286 t287).bind fun t302 => (if t302 = true then ((congruence_Leq.f k t284 t285 t288 t289).bind fun t303 => (if t303 = true then ((congruence_Leq.f k t286 t287 t288 t289).bind fun t304 => (if t304 = true then ((congruence_Leq.f k t293 t294 t288 t289).bind fun t305 => (timeboundlaw08_CongruenceLattice.j0 k a4 (!t305) t284 t285 t286 t287 t293 t294 bt295.1 bt295.2)) else (timeboundlaw08_CongruenceLattice.j0 k a4 false t284 t285 t286 t287 t293 t294 bt295.1 bt295.2))) else (timeboundlaw08_CongruenceLattice.j0 k a4 false t284 t285 t286 t287 t293 t294 bt295.1 bt295.2))) else (none))) else (none))) else (none))) else (none)))) = some r := H
  have A9 := Aside0.mk A90
  clear A90
  replace H := Option.bind_eq_some_iff.mp H
  obtain ⟨⟨t295, t296⟩, A100, H⟩ := H
  replace H : ((congruence_Leq.f k t284 t285 t293 t294).bind fun t299 => (if t299 = true then ((congruence_Leq.f k t286 t287 t293 t294).bind fun t300 => (if t300 = true then ((congruence_Leq.f k t295 t296 t284 t285).bind fun t301 => (if t301 = true then ((congruence_Leq.f k t295 t296 t286 t287).bind fun t302 => (if t302 = true then ((congruence_Leq.f k t284 t285 t288 t289).bind fun t303 => (if t303 = true then ((congruence_Leq.f k t286 t287 t288 t289).bind fun t304 => (if t304 = true then ((congruence_Leq.f k t293 t294 t288 t289).bind fun t305 => (timeboundlaw08_CongruenceLattice.j0 k a4 (!t305) t284 t285 t286 t287 t293 t294 t295 t296)) else (timeboundlaw08_CongruenceLattice.j0 k a4 false t284 t285 t286 t287 t293 t294 t295 t296))) else (timeboundlaw08_CongruenceLattice.j0 k a4 false t284 t285 t286 t287 t293 t294 t295 t296))) else (none))) else (none))) else (none))) else (none))) = some r := H
  have A10 := Aside0.mk A100
  clear A100
  have HC11 := Aside0.mk H
  clear H
  go_enter Tryd.func7, Tryd.ntmps7
  try go_wp2_with (first | ((with_reducible refine gate_dst (N := 8) rfl ?_); refine box_event ?hg (N := 8) ?hd (cs := #[.int .u8 a3_0, .int .u8 a3_1, .int .u8 a3_2]) (t := 42) ?hr ?_; (case hd => rfl); (case hg => rfl); (case hr => first | (go_simp; done) | (go_simp; rfl)); intro gb283 hg w12 hbox hb; have n0_ := Aside0.mk (below_step (by repeat (first | (with_reducible first | exact HB.out | apply below_alloc | apply below_drew1) | exact HB.out)) hb); have n1_ := Aside0.mk (hbox); have n2_ := Aside0.mk ((by rw [hg]; exact (below_size (by repeat (first | (with_reducible first | exact HB.out | apply below_alloc | apply below_drew1) | exact HB.out))) : w.heap.size ≤ gb283)); have n3_ := Aside0.mk ((by rw [hg]; exact (below_size (by repeat (first | (with_reducible first | exact HB.out | apply below_alloc | apply below_drew1) | exact HB.out))) : w.heap.size ≤ gb283)); clear HB; have HB := n0_; have BK283 := n1_; have GW283 := n2_; have GE283 := n3_; clear n0_ n1_ n2_ n3_; clear hb hbox hg))
  have n0_ := Aside0.mk (blk_drew BK283.out)
  have n1_ := Aside0.mk (below_drew1 HB.out)
  clear BK283
  clear HB
  have BK283 := n0_
  have HB := n1_
  clear n0_ n1_
  refine start_ (n := 18) (S := fun w' => True) (ds := []) #[Z, Z, Z, Z, Z, Z, Z, Z, Z, Z, Z, Z, Z, Z, Z, Z, Z, Z] (by kernel_rfl) rfl rfl trivial (fun hHeld => ?_); refine with_tabW timeboundlaw08_CongruenceLattice.tab1 timeboundlaw08_CongruenceLattice.bits1 (fun HT_ HW_ => ?_)
  generalize w12.drew = w13 at BK283 HB hHeld ⊢
  refine pure_ (i := 0) (N := some 17) (v := ?_) (a' := ?_) #[Y, Z, Z, Z, Z, Z, Z, Z, Z, Z, Z, Z, Z, Z, Z, Z, Z, Z] rfl rfl (any_of HT_.out (by kernel_rfl)) (fun _ _ _ h => h) (Or.inl ⟨by rfl, ?_⟩) ?_ ?_
  rotate_left
  · intro w'
    go_simp
    with_reducible rfl
  rotate_left
  · simp only [Act.put, sA, sB, sC, i64_w, i32_w]
    rfl
  refine pure_ (i := 4) (N := some 21) (v := ?_) (a' := ?_) #[Y, Z, Z, Z, Y, Z, Z, Z, Z, Z, Z, Z, Z, Z, Z, Z, Z, Z] rfl rfl (any_of HT_.out (by kernel_rfl)) (fun _ _ _ h => h) (Or.inl ⟨by rfl, ?_⟩) ?_ ?_
  rotate_left
  · intro w'
    go_simp
    with_reducible rfl
  rotate_left
  · simp only [Act.put, sA, sB, sC, i64_w, i32_w]
    rfl
  refine pure_ (i := 8) (N := some 25) (v := ?_) (a' := ?_) #[Y, Z, Z, Z, Y, Z, Z, Z, Y, Z, Z, Z, Z, Z, Z, Z, Z, Z] rfl rfl (any_of HT_.out (by kernel_rfl)) (fun _ _ _ h => h) (Or.inl ⟨by rfl, ?_⟩) ?_ ?_
  rotate_left
  · intro w'
    go_simp
    with_reducible rfl
  rotate_left
  · simp only [Act.put, sA, sB, sC, i64_w, i32_w]
    rfl
  refine inv_at [1, 2, 3, 5, 6, 7, 9, 10, 11, 12, 13, 14, 15, 16, 17] (fun a0_ b a w' => ∃ (gb290 : Nat) (gb291 : Nat) (gb292 : Nat) (m12_ : Value) (m13_ : Value) (m14_ : Value), a = putSel a0_ b [(1, 18, .pointer (some ⟨gb283, 0, none⟩)), (2, 19, .int .u8 a3_0), (3, 20, .agg #[.int .i64 t284, .int .i64 t285]), (5, 22, .pointer (some ⟨gb283, 1, none⟩)), (6, 23, .int .u8 a3_1), (7, 24, .agg #[.int .i64 t286, .int .i64 t287]), (9, 26, .pointer (some ⟨gb283, 2, none⟩)), (10, 27, .int .u8 a3_2), (11, 28, .agg #[.int .i64 t288, .int .i64 t289]), (12, 11, m12_), (13, 12, m13_), (14, 13, m14_)] ∧ (w'.heap[gb283]? = some (.cells #[.int .u8 a3_0, .int .u8 a3_1, .int .u8 a3_2] 42 (0, 0))) ∧ (Below w.heap.size w w') ∧ (b 12 = true → b 13 = true → gb291 ≠ gb290) ∧ (b 12 = true → b 13 = true → gb290 ≠ gb291) ∧ (b 12 = true → b 14 = true → gb292 ≠ gb290) ∧ (b 12 = true → b 14 = true → gb290 ≠ gb292) ∧ (b 13 = true → b 14 = true → gb292 ≠ gb291) ∧ (b 13 = true → b 14 = true → gb291 ≠ gb292) ∧ (b 12 = true → b 15 = false → w'.heap[gb290]? = some (.cells #[.int .i64 0, .int .i64 0] 25 (0, 0))) ∧ (b 12 = true → w.heap.size ≤ gb290) ∧ (b 12 = true → w.heap.size ≤ gb290) ∧ (b 12 = true → gb283 ≠ gb290) ∧ (b 12 = true → gb290 ≠ gb283) ∧ (b 13 = true → b 16 = false → w'.heap[gb291]? = some (.cells #[.int .i64 0, .int .i64 0] 25 (0, 0))) ∧ (b 13 = true → w.heap.size ≤ gb291) ∧ (b 13 = true → w.heap.size ≤ gb291) ∧ (b 13 = true → gb283 ≠ gb291) ∧ (b 13 = true → gb291 ≠ gb283) ∧ (b 14 = true → b 17 = false → w'.heap[gb292]? = some (.cells #[.int .i64 0, .int .i64 0] 25 (0, 0))) ∧ (b 14 = true → w.heap.size ≤ gb292) ∧ (b 14 = true → w.heap.size ≤ gb292) ∧ (b 14 = true → gb283 ≠ gb292) ∧ (b 14 = true → gb292 ≠ gb283) ∧ (b 15 = true → w'.heap[gb290]? = some (.cells #[.int .i64 t284, .int .i64 t285] 25 (0, 0))) ∧ (b 16 = true → w'.heap[gb291]? = some (.cells #[.int .i64 t286, .int .i64 t287] 25 (0, 0))) ∧ (b 17 = true → w'.heap[gb292]? = some (.cells #[.int .i64 t288, .int .i64 t289] 25 (0, 0))) ∧ (b 12 = true → (m12_ : Value) = .pointer (some ⟨gb290, 0, none⟩)) ∧ (b 13 = true → (m13_ : Value) = .pointer (some ⟨gb291, 0, none⟩)) ∧ (b 14 = true → (m14_ : Value) = .pointer (some ⟨gb292, 0, none⟩))) HT_.out HW_.out (by kernel_rfl) (by kernel_rfl) ?_ ?_ ?_
  · exact ⟨0, 0, 0, .bool false, .bool false, .bool false, by simp only [putSel, Bool.false_eq_true, if_false], BK283.out, HB.out, fun h_ => absurd h_ (by decide), fun h_ => absurd h_ (by decide), fun h_ => absurd h_ (by decide), fun h_ => absurd h_ (by decide), fun h_ => absurd h_ (by decide), fun h_ => absurd h_ (by decide), fun h_ => absurd h_ (by decide), fun h_ => absurd h_ (by decide), fun h_ => absurd h_ (by decide), fun h_ => absurd h_ (by decide), fun h_ => absurd h_ (by decide), fun h_ => absurd h_ (by decide), fun h_ => absurd h_ (by decide), fun h_ => absurd h_ (by decide), fun h_ => absurd h_ (by decide), fun h_ => absurd h_ (by decide), fun h_ => absurd h_ (by decide), fun h_ => absurd h_ (by decide), fun h_ => absurd h_ (by decide), fun h_ => absurd h_ (by decide), fun h_ => absurd h_ (by decide), fun h_ => absurd h_ (by decide), fun h_ => absurd h_ (by decide), fun h_ => absurd h_ (by decide), fun h_ => absurd h_ (by decide), fun h_ => absurd h_ (by decide), fun h_ => absurd h_ (by decide)⟩
  · skip
    clear BK283 HB
    refine steps_cons ?_ ?_
    · rintro b a w' ⟨gb290, gb291, gb292, m12_, m13_, m14_, ha, Q_BK283, Q_HB, Q_NB291_290, Q_NB290_291, Q_NB292_290, Q_NB290_292, Q_NB292_291, Q_NB291_292, Q_BK290, Q_GW290, Q_GE290, Q_NB283_290, Q_NB290_283, Q_BK291, Q_GW291, Q_GE291, Q_NB283_291, Q_NB291_283, Q_BK292, Q_GW292, Q_GE292, Q_NB283_292, Q_NB292_283, Q_BK290_e15, Q_BK291_e16, Q_BK292_e17, Q_X12_, Q_X13_, Q_X14_⟩ hb_ hon hoff
      refine ⟨_, rfl, fun K hK => ?_⟩
      have e8 : a.tmps[8]? = some (.pointer (some ⟨gb283, 0, none⟩)) := by rw [ha]; exact (putSel_off rfl).trans rfl
      replace ha := Aside0.mk ha
      have BK283 := Aside0.mk Q_BK283
      have HB := Aside0.mk Q_HB
      refine value_ (w1 := w') (v := .pointer (some ⟨gb283, 0, none⟩)) (by rfl) rfl ?_ ?_
      · go_simp
        (try simp only [i64_w])
        try rfl
      refine hK.out _ _ ⟨gb290, gb291, gb292, m12_, m13_, m14_, (by rw [ha.out]; exact putSel_upk 0 hb_ rfl rfl rfl), Q_BK283, Q_HB, Q_NB291_290, Q_NB290_291, Q_NB292_290, Q_NB290_292, Q_NB292_291, Q_NB291_292, Q_BK290, Q_GW290, Q_GE290, Q_NB283_290, Q_NB290_283, Q_BK291, Q_GW291, Q_GE291, Q_NB283_291, Q_NB291_283, Q_BK292, Q_GW292, Q_GE292, Q_NB283_292, Q_NB292_283, fun h0_ => absurd ((hoff 15 (by kernel_rfl)).symm.trans h0_) (by decide), fun h0_ => absurd ((hoff 16 (by kernel_rfl)).symm.trans h0_) (by decide), fun h0_ => absurd ((hoff 17 (by kernel_rfl)).symm.trans h0_) (by decide), Q_X12_, Q_X13_, Q_X14_⟩
    refine steps_cons ?_ ?_
    · rintro b a w' ⟨gb290, gb291, gb292, m12_, m13_, m14_, ha, Q_BK283, Q_HB, Q_NB291_290, Q_NB290_291, Q_NB292_290, Q_NB290_292, Q_NB292_291, Q_NB291_292, Q_BK290, Q_GW290, Q_GE290, Q_NB283_290, Q_NB290_283, Q_BK291, Q_GW291, Q_GE291, Q_NB283_291, Q_NB291_283, Q_BK292, Q_GW292, Q_GE292, Q_NB283_292, Q_NB292_283, Q_BK290_e15, Q_BK291_e16, Q_BK292_e17, Q_X12_, Q_X13_, Q_X14_⟩ hb_ hon hoff
      refine ⟨_, rfl, fun K hK => ?_⟩
      have e18 : a.tmps[18]? = some (.pointer (some ⟨gb283, 0, none⟩)) := by rw [ha]; exact putSel_on (e := (1, 18, .pointer (some ⟨gb283, 0, none⟩))) 0 rfl rfl (hon 1 (by kernel_rfl)) rfl
      replace ha := Aside0.mk ha
      have BK283 := Aside0.mk Q_BK283
      have HB := Aside0.mk Q_HB
      have hc0_ : w'.cell? ⟨gb283, 0, none⟩ = some (.int .u8 a3_0) := (blk_cell BK283.out 0).trans rfl
      have hc1_ : w'.cell? ⟨gb283, 1, none⟩ = some (.int .u8 a3_1) := (blk_cell BK283.out 1).trans rfl
      have hc2_ : w'.cell? ⟨gb283, 2, none⟩ = some (.int .u8 a3_2) := (blk_cell BK283.out 2).trans rfl
      refine value_ (w1 := w') (v := .int .u8 a3_0) (by rfl) rfl ?_ ?_
      · go_simp
        (try simp only [i64_w])
        try rfl
      refine hK.out _ _ ⟨gb290, gb291, gb292, m12_, m13_, m14_, (by rw [ha.out]; exact putSel_upk 1 hb_ rfl rfl rfl), Q_BK283, Q_HB, Q_NB291_290, Q_NB290_291, Q_NB292_290, Q_NB290_292, Q_NB292_291, Q_NB291_292, Q_BK290, Q_GW290, Q_GE290, Q_NB283_290, Q_NB290_283, Q_BK291, Q_GW291, Q_GE291, Q_NB283_291, Q_NB291_283, Q_BK292, Q_GW292, Q_GE292, Q_NB283_292, Q_NB292_283, fun h0_ => absurd ((hoff 15 (by kernel_rfl)).symm.trans h0_) (by decide), fun h0_ => absurd ((hoff 16 (by kernel_rfl)).symm.trans h0_) (by decide), fun h0_ => absurd ((hoff 17 (by kernel_rfl)).symm.trans h0_) (by decide), Q_X12_, Q_X13_, Q_X14_⟩
    refine steps_cons ?_ ?_
    · rintro b a w' ⟨gb290, gb291, gb292, m12_, m13_, m14_, ha, Q_BK283, Q_HB, Q_NB291_290, Q_NB290_291, Q_NB292_290, Q_NB290_292, Q_NB292_291, Q_NB291_292, Q_BK290, Q_GW290, Q_GE290, Q_NB283_290, Q_NB290_283, Q_BK291, Q_GW291, Q_GE291, Q_NB283_291, Q_NB291_283, Q_BK292, Q_GW292, Q_GE292, Q_NB283_292, Q_NB292_283, Q_BK290_e15, Q_BK291_e16, Q_BK292_e17, Q_X12_, Q_X13_, Q_X14_⟩ hb_ hon hoff
      refine ⟨_, rfl, fun K hK => ?_⟩
      have e17 : a.tmps[17]? = some (.int .i32 a0) := by rw [ha]; exact (putSel_off rfl).trans rfl
      have e19 : a.tmps[19]? = some (.int .u8 a3_0) := by rw [ha]; exact putSel_on (e := (2, 19, .int .u8 a3_0)) 1 rfl rfl (hon 2 (by kernel_rfl)) rfl
      replace ha := Aside0.mk ha
      have BK283 := Aside0.mk Q_BK283
      have HB := Aside0.mk Q_HB
      refine goes_ Tryd.func8 (by kernel_rfl) rfl #[.int .i32 a0, .int .u8 a3_0] (by rfl) rfl rfl (by first | (simp only [List.map_toArray, List.map_cons, List.map_nil, Act.eval, Array.getD_eq_getD_getElem?, Option.getD_some, e17, e19]; done) | (simp only [List.map_toArray, List.map_cons, List.map_nil, Act.eval, Array.getD_eq_getD_getElem?, Option.getD_some, e17, e19]; rfl)) ?_
      with_reducible refine (timeboundlaw08_of.calls a0 a3_0 t284 t285 _ A6.out).mono ?_
      rintro e w14 ⟨rfl, hb⟩
      refine ⟨_, rfl, ?_⟩
      have n0_ := Aside0.mk (blk_below (g := gb283) (o := .cells #[.int .u8 a3_0, .int .u8 a3_1, .int .u8 a3_2] 42 (0, 0)) BK283.out hb)
      have n1_ := Aside0.mk (below_step (by repeat (first | (with_reducible first | exact HB.out | apply below_alloc | apply below_drew1 | refine below_set ?_ GE283.out) | exact HB.out)) hb)
      have z_BK290 := fun (h0_ : b 12 = true) (h1_ : b 15 = false) => (show w14.heap[gb290]? = some (.cells #[.int .i64 0, .int .i64 0] 25 (0, 0)) from by first | exact (blk_below (g := gb290) (o := .cells #[.int .i64 0, .int .i64 0] 25 (0, 0)) (by (with_reducible repeat (first | refine blk_drew ?_ | refine blk_alloc ?_ _)); exact (Q_BK290 h0_ h1_)) hb))
      have z_BK291 := fun (h0_ : b 13 = true) (h1_ : b 16 = false) => (show w14.heap[gb291]? = some (.cells #[.int .i64 0, .int .i64 0] 25 (0, 0)) from by first | exact (blk_below (g := gb291) (o := .cells #[.int .i64 0, .int .i64 0] 25 (0, 0)) (by (with_reducible repeat (first | refine blk_drew ?_ | refine blk_alloc ?_ _)); exact (Q_BK291 h0_ h1_)) hb))
      have z_BK292 := fun (h0_ : b 14 = true) (h1_ : b 17 = false) => (show w14.heap[gb292]? = some (.cells #[.int .i64 0, .int .i64 0] 25 (0, 0)) from by first | exact (blk_below (g := gb292) (o := .cells #[.int .i64 0, .int .i64 0] 25 (0, 0)) (by (with_reducible repeat (first | refine blk_drew ?_ | refine blk_alloc ?_ _)); exact (Q_BK292 h0_ h1_)) hb))
      clear BK283
      clear HB
      have BK283 := n0_
      have HB := n1_
      clear n0_ n1_
      (try clear hb)
      (try clear hb2)
      (try clear hk)
      (try clear hi)
      refine hK.out _ _ ⟨gb290, gb291, gb292, m12_, m13_, m14_, (by rw [ha.out]; exact putSel_upk 2 hb_ rfl rfl rfl), (by (with_reducible repeat (first | refine blk_drew ?_ | refine blk_alloc ?_ _)); exact BK283.out), (by repeat (first | (with_reducible first | exact HB.out | apply below_alloc | apply below_drew1 | refine below_set ?_ GE283.out) | exact HB.out)), Q_NB291_290, Q_NB290_291, Q_NB292_290, Q_NB290_292, Q_NB292_291, Q_NB291_292, z_BK290, Q_GW290, Q_GE290, Q_NB283_290, Q_NB290_283, z_BK291, Q_GW291, Q_GE291, Q_NB283_291, Q_NB291_283, z_BK292, Q_GW292, Q_GE292, Q_NB283_292, Q_NB292_283, fun h0_ => absurd ((hoff 15 (by kernel_rfl)).symm.trans h0_) (by decide), fun h0_ => absurd ((hoff 16 (by kernel_rfl)).symm.trans h0_) (by decide), fun h0_ => absurd ((hoff 17 (by kernel_rfl)).symm.trans h0_) (by decide), Q_X12_, Q_X13_, Q_X14_⟩
    refine steps_cons ?_ ?_
    · rintro b a w' ⟨gb290, gb291, gb292, m12_, m13_, m14_, ha, Q_BK283, Q_HB, Q_NB291_290, Q_NB290_291, Q_NB292_290, Q_NB290_292, Q_NB292_291, Q_NB291_292, Q_BK290, Q_GW290, Q_GE290, Q_NB283_290, Q_NB290_283, Q_BK291, Q_GW291, Q_GE291, Q_NB283_291, Q_NB291_283, Q_BK292, Q_GW292, Q_GE292, Q_NB283_292, Q_NB292_283, Q_BK290_e15, Q_BK291_e16, Q_BK292_e17, Q_X12_, Q_X13_, Q_X14_⟩ hb_ hon hoff
      refine ⟨_, rfl, fun K hK => ?_⟩
      have e8 : a.tmps[8]? = some (.pointer (some ⟨gb283, 0, none⟩)) := by rw [ha]; exact (putSel_off rfl).trans rfl
      replace ha := Aside0.mk ha
      have BK283 := Aside0.mk Q_BK283
      have HB := Aside0.mk Q_HB
      refine value_ (w1 := w') (v := .pointer (some ⟨gb283, 1, none⟩)) (by rfl) rfl ?_ ?_
      · go_simp
        (try simp only [i64_w])
        try rfl
      refine hK.out _ _ ⟨gb290, gb291, gb292, m12_, m13_, m14_, (by rw [ha.out]; exact putSel_upk 3 hb_ rfl rfl rfl), Q_BK283, Q_HB, Q_NB291_290, Q_NB290_291, Q_NB292_290, Q_NB290_292, Q_NB292_291, Q_NB291_292, Q_BK290, Q_GW290, Q_GE290, Q_NB283_290, Q_NB290_283, Q_BK291, Q_GW291, Q_GE291, Q_NB283_291, Q_NB291_283, Q_BK292, Q_GW292, Q_GE292, Q_NB283_292, Q_NB292_283, fun h0_ => absurd ((hoff 15 (by kernel_rfl)).symm.trans h0_) (by decide), fun h0_ => absurd ((hoff 16 (by kernel_rfl)).symm.trans h0_) (by decide), fun h0_ => absurd ((hoff 17 (by kernel_rfl)).symm.trans h0_) (by decide), Q_X12_, Q_X13_, Q_X14_⟩
    refine steps_cons ?_ ?_
    · rintro b a w' ⟨gb290, gb291, gb292, m12_, m13_, m14_, ha, Q_BK283, Q_HB, Q_NB291_290, Q_NB290_291, Q_NB292_290, Q_NB290_292, Q_NB292_291, Q_NB291_292, Q_BK290, Q_GW290, Q_GE290, Q_NB283_290, Q_NB290_283, Q_BK291, Q_GW291, Q_GE291, Q_NB283_291, Q_NB291_283, Q_BK292, Q_GW292, Q_GE292, Q_NB283_292, Q_NB292_283, Q_BK290_e15, Q_BK291_e16, Q_BK292_e17, Q_X12_, Q_X13_, Q_X14_⟩ hb_ hon hoff
      refine ⟨_, rfl, fun K hK => ?_⟩
      have e22 : a.tmps[22]? = some (.pointer (some ⟨gb283, 1, none⟩)) := by rw [ha]; exact putSel_on (e := (5, 22, .pointer (some ⟨gb283, 1, none⟩))) 3 rfl rfl (hon 5 (by kernel_rfl)) rfl
      replace ha := Aside0.mk ha
      have BK283 := Aside0.mk Q_BK283
      have HB := Aside0.mk Q_HB
      have hc0_ : w'.cell? ⟨gb283, 0, none⟩ = some (.int .u8 a3_0) := (blk_cell BK283.out 0).trans rfl
      have hc1_ : w'.cell? ⟨gb283, 1, none⟩ = some (.int .u8 a3_1) := (blk_cell BK283.out 1).trans rfl
      have hc2_ : w'.cell? ⟨gb283, 2, none⟩ = some (.int .u8 a3_2) := (blk_cell BK283.out 2).trans rfl
      refine value_ (w1 := w') (v := .int .u8 a3_1) (by rfl) rfl ?_ ?_
      · go_simp
        (try simp only [i64_w])
        try rfl
      refine hK.out _ _ ⟨gb290, gb291, gb292, m12_, m13_, m14_, (by rw [ha.out]; exact putSel_upk 4 hb_ rfl rfl rfl), Q_BK283, Q_HB, Q_NB291_290, Q_NB290_291, Q_NB292_290, Q_NB290_292, Q_NB292_291, Q_NB291_292, Q_BK290, Q_GW290, Q_GE290, Q_NB283_290, Q_NB290_283, Q_BK291, Q_GW291, Q_GE291, Q_NB283_291, Q_NB291_283, Q_BK292, Q_GW292, Q_GE292, Q_NB283_292, Q_NB292_283, fun h0_ => absurd ((hoff 15 (by kernel_rfl)).symm.trans h0_) (by decide), fun h0_ => absurd ((hoff 16 (by kernel_rfl)).symm.trans h0_) (by decide), fun h0_ => absurd ((hoff 17 (by kernel_rfl)).symm.trans h0_) (by decide), Q_X12_, Q_X13_, Q_X14_⟩
    refine steps_cons ?_ ?_
    · rintro b a w' ⟨gb290, gb291, gb292, m12_, m13_, m14_, ha, Q_BK283, Q_HB, Q_NB291_290, Q_NB290_291, Q_NB292_290, Q_NB290_292, Q_NB292_291, Q_NB291_292, Q_BK290, Q_GW290, Q_GE290, Q_NB283_290, Q_NB290_283, Q_BK291, Q_GW291, Q_GE291, Q_NB283_291, Q_NB291_283, Q_BK292, Q_GW292, Q_GE292, Q_NB283_292, Q_NB292_283, Q_BK290_e15, Q_BK291_e16, Q_BK292_e17, Q_X12_, Q_X13_, Q_X14_⟩ hb_ hon hoff
      refine ⟨_, rfl, fun K hK => ?_⟩
      have e21 : a.tmps[21]? = some (.int .i32 a1) := by rw [ha]; exact (putSel_off rfl).trans rfl
      have e23 : a.tmps[23]? = some (.int .u8 a3_1) := by rw [ha]; exact putSel_on (e := (6, 23, .int .u8 a3_1)) 4 rfl rfl (hon 6 (by kernel_rfl)) rfl
      replace ha := Aside0.mk ha
      have BK283 := Aside0.mk Q_BK283
      have HB := Aside0.mk Q_HB
      refine goes_ Tryd.func8 (by kernel_rfl) rfl #[.int .i32 a1, .int .u8 a3_1] (by rfl) rfl rfl (by first | (simp only [List.map_toArray, List.map_cons, List.map_nil, Act.eval, Array.getD_eq_getD_getElem?, Option.getD_some, e21, e23]; done) | (simp only [List.map_toArray, List.map_cons, List.map_nil, Act.eval, Array.getD_eq_getD_getElem?, Option.getD_some, e21, e23]; rfl)) ?_
      with_reducible refine (timeboundlaw08_of.calls a1 a3_1 t286 t287 _ A7.out).mono ?_
      rintro e w16 ⟨rfl, hb⟩
      refine ⟨_, rfl, ?_⟩
      have n0_ := Aside0.mk (blk_below (g := gb283) (o := .cells #[.int .u8 a3_0, .int .u8 a3_1, .int .u8 a3_2] 42 (0, 0)) BK283.out hb)
      have n1_ := Aside0.mk (below_step (by repeat (first | (with_reducible first | exact HB.out | apply below_alloc | apply below_drew1 | refine below_set ?_ GE283.out) | exact HB.out)) hb)
      have z_BK290 := fun (h0_ : b 12 = true) (h1_ : b 15 = false) => (show w16.heap[gb290]? = some (.cells #[.int .i64 0, .int .i64 0] 25 (0, 0)) from by first | exact (blk_below (g := gb290) (o := .cells #[.int .i64 0, .int .i64 0] 25 (0, 0)) (by (with_reducible repeat (first | refine blk_drew ?_ | refine blk_alloc ?_ _)); exact (Q_BK290 h0_ h1_)) hb))
      have z_BK291 := fun (h0_ : b 13 = true) (h1_ : b 16 = false) => (show w16.heap[gb291]? = some (.cells #[.int .i64 0, .int .i64 0] 25 (0, 0)) from by first | exact (blk_below (g := gb291) (o := .cells #[.int .i64 0, .int .i64 0] 25 (0, 0)) (by (with_reducible repeat (first | refine blk_drew ?_ | refine blk_alloc ?_ _)); exact (Q_BK291 h0_ h1_)) hb))
      have z_BK292 := fun (h0_ : b 14 = true) (h1_ : b 17 = false) => (show w16.heap[gb292]? = some (.cells #[.int .i64 0, .int .i64 0] 25 (0, 0)) from by first | exact (blk_below (g := gb292) (o := .cells #[.int .i64 0, .int .i64 0] 25 (0, 0)) (by (with_reducible repeat (first | refine blk_drew ?_ | refine blk_alloc ?_ _)); exact (Q_BK292 h0_ h1_)) hb))
      clear BK283
      clear HB
      have BK283 := n0_
      have HB := n1_
      clear n0_ n1_
      (try clear hb)
      (try clear hb2)
      (try clear hk)
      (try clear hi)
      refine hK.out _ _ ⟨gb290, gb291, gb292, m12_, m13_, m14_, (by rw [ha.out]; exact putSel_upk 5 hb_ rfl rfl rfl), (by (with_reducible repeat (first | refine blk_drew ?_ | refine blk_alloc ?_ _)); exact BK283.out), (by repeat (first | (with_reducible first | exact HB.out | apply below_alloc | apply below_drew1 | refine below_set ?_ GE283.out) | exact HB.out)), Q_NB291_290, Q_NB290_291, Q_NB292_290, Q_NB290_292, Q_NB292_291, Q_NB291_292, z_BK290, Q_GW290, Q_GE290, Q_NB283_290, Q_NB290_283, z_BK291, Q_GW291, Q_GE291, Q_NB283_291, Q_NB291_283, z_BK292, Q_GW292, Q_GE292, Q_NB283_292, Q_NB292_283, fun h0_ => absurd ((hoff 15 (by kernel_rfl)).symm.trans h0_) (by decide), fun h0_ => absurd ((hoff 16 (by kernel_rfl)).symm.trans h0_) (by decide), fun h0_ => absurd ((hoff 17 (by kernel_rfl)).symm.trans h0_) (by decide), Q_X12_, Q_X13_, Q_X14_⟩
    refine steps_cons ?_ ?_
    · rintro b a w' ⟨gb290, gb291, gb292, m12_, m13_, m14_, ha, Q_BK283, Q_HB, Q_NB291_290, Q_NB290_291, Q_NB292_290, Q_NB290_292, Q_NB292_291, Q_NB291_292, Q_BK290, Q_GW290, Q_GE290, Q_NB283_290, Q_NB290_283, Q_BK291, Q_GW291, Q_GE291, Q_NB283_291, Q_NB291_283, Q_BK292, Q_GW292, Q_GE292, Q_NB283_292, Q_NB292_283, Q_BK290_e15, Q_BK291_e16, Q_BK292_e17, Q_X12_, Q_X13_, Q_X14_⟩ hb_ hon hoff
      refine ⟨_, rfl, fun K hK => ?_⟩
      have e8 : a.tmps[8]? = some (.pointer (some ⟨gb283, 0, none⟩)) := by rw [ha]; exact (putSel_off rfl).trans rfl
      replace ha := Aside0.mk ha
      have BK283 := Aside0.mk Q_BK283
      have HB := Aside0.mk Q_HB
      refine value_ (w1 := w') (v := .pointer (some ⟨gb283, 2, none⟩)) (by rfl) rfl ?_ ?_
      · go_simp
        (try simp only [i64_w])
        try rfl
      refine hK.out _ _ ⟨gb290, gb291, gb292, m12_, m13_, m14_, (by rw [ha.out]; exact putSel_upk 6 hb_ rfl rfl rfl), Q_BK283, Q_HB, Q_NB291_290, Q_NB290_291, Q_NB292_290, Q_NB290_292, Q_NB292_291, Q_NB291_292, Q_BK290, Q_GW290, Q_GE290, Q_NB283_290, Q_NB290_283, Q_BK291, Q_GW291, Q_GE291, Q_NB283_291, Q_NB291_283, Q_BK292, Q_GW292, Q_GE292, Q_NB283_292, Q_NB292_283, fun h0_ => absurd ((hoff 15 (by kernel_rfl)).symm.trans h0_) (by decide), fun h0_ => absurd ((hoff 16 (by kernel_rfl)).symm.trans h0_) (by decide), fun h0_ => absurd ((hoff 17 (by kernel_rfl)).symm.trans h0_) (by decide), Q_X12_, Q_X13_, Q_X14_⟩
    refine steps_cons ?_ ?_
    · rintro b a w' ⟨gb290, gb291, gb292, m12_, m13_, m14_, ha, Q_BK283, Q_HB, Q_NB291_290, Q_NB290_291, Q_NB292_290, Q_NB290_292, Q_NB292_291, Q_NB291_292, Q_BK290, Q_GW290, Q_GE290, Q_NB283_290, Q_NB290_283, Q_BK291, Q_GW291, Q_GE291, Q_NB283_291, Q_NB291_283, Q_BK292, Q_GW292, Q_GE292, Q_NB283_292, Q_NB292_283, Q_BK290_e15, Q_BK291_e16, Q_BK292_e17, Q_X12_, Q_X13_, Q_X14_⟩ hb_ hon hoff
      refine ⟨_, rfl, fun K hK => ?_⟩
      have e26 : a.tmps[26]? = some (.pointer (some ⟨gb283, 2, none⟩)) := by rw [ha]; exact putSel_on (e := (9, 26, .pointer (some ⟨gb283, 2, none⟩))) 6 rfl rfl (hon 9 (by kernel_rfl)) rfl
      replace ha := Aside0.mk ha
      have BK283 := Aside0.mk Q_BK283
      have HB := Aside0.mk Q_HB
      have hc0_ : w'.cell? ⟨gb283, 0, none⟩ = some (.int .u8 a3_0) := (blk_cell BK283.out 0).trans rfl
      have hc1_ : w'.cell? ⟨gb283, 1, none⟩ = some (.int .u8 a3_1) := (blk_cell BK283.out 1).trans rfl
      have hc2_ : w'.cell? ⟨gb283, 2, none⟩ = some (.int .u8 a3_2) := (blk_cell BK283.out 2).trans rfl
      refine value_ (w1 := w') (v := .int .u8 a3_2) (by rfl) rfl ?_ ?_
      · go_simp
        (try simp only [i64_w])
        try rfl
      refine hK.out _ _ ⟨gb290, gb291, gb292, m12_, m13_, m14_, (by rw [ha.out]; exact putSel_upk 7 hb_ rfl rfl rfl), Q_BK283, Q_HB, Q_NB291_290, Q_NB290_291, Q_NB292_290, Q_NB290_292, Q_NB292_291, Q_NB291_292, Q_BK290, Q_GW290, Q_GE290, Q_NB283_290, Q_NB290_283, Q_BK291, Q_GW291, Q_GE291, Q_NB283_291, Q_NB291_283, Q_BK292, Q_GW292, Q_GE292, Q_NB283_292, Q_NB292_283, fun h0_ => absurd ((hoff 15 (by kernel_rfl)).symm.trans h0_) (by decide), fun h0_ => absurd ((hoff 16 (by kernel_rfl)).symm.trans h0_) (by decide), fun h0_ => absurd ((hoff 17 (by kernel_rfl)).symm.trans h0_) (by decide), Q_X12_, Q_X13_, Q_X14_⟩
    refine steps_cons ?_ ?_
    · rintro b a w' ⟨gb290, gb291, gb292, m12_, m13_, m14_, ha, Q_BK283, Q_HB, Q_NB291_290, Q_NB290_291, Q_NB292_290, Q_NB290_292, Q_NB292_291, Q_NB291_292, Q_BK290, Q_GW290, Q_GE290, Q_NB283_290, Q_NB290_283, Q_BK291, Q_GW291, Q_GE291, Q_NB283_291, Q_NB291_283, Q_BK292, Q_GW292, Q_GE292, Q_NB283_292, Q_NB292_283, Q_BK290_e15, Q_BK291_e16, Q_BK292_e17, Q_X12_, Q_X13_, Q_X14_⟩ hb_ hon hoff
      refine ⟨_, rfl, fun K hK => ?_⟩
      have e25 : a.tmps[25]? = some (.int .i32 a2) := by rw [ha]; exact (putSel_off rfl).trans rfl
      have e27 : a.tmps[27]? = some (.int .u8 a3_2) := by rw [ha]; exact putSel_on (e := (10, 27, .int .u8 a3_2)) 7 rfl rfl (hon 10 (by kernel_rfl)) rfl
      replace ha := Aside0.mk ha
      have BK283 := Aside0.mk Q_BK283
      have HB := Aside0.mk Q_HB
      refine goes_ Tryd.func8 (by kernel_rfl) rfl #[.int .i32 a2, .int .u8 a3_2] (by rfl) rfl rfl (by first | (simp only [List.map_toArray, List.map_cons, List.map_nil, Act.eval, Array.getD_eq_getD_getElem?, Option.getD_some, e25, e27]; done) | (simp only [List.map_toArray, List.map_cons, List.map_nil, Act.eval, Array.getD_eq_getD_getElem?, Option.getD_some, e25, e27]; rfl)) ?_
      with_reducible refine (timeboundlaw08_of.calls a2 a3_2 t288 t289 _ A8.out).mono ?_
      rintro e w17 ⟨rfl, hb⟩
      refine ⟨_, rfl, ?_⟩
      have n0_ := Aside0.mk (blk_below (g := gb283) (o := .cells #[.int .u8 a3_0, .int .u8 a3_1, .int .u8 a3_2] 42 (0, 0)) BK283.out hb)
      have n1_ := Aside0.mk (below_step (by repeat (first | (with_reducible first | exact HB.out | apply below_alloc | apply below_drew1 | refine below_set ?_ GE283.out) | exact HB.out)) hb)
      have z_BK290 := fun (h0_ : b 12 = true) (h1_ : b 15 = false) => (show w17.heap[gb290]? = some (.cells #[.int .i64 0, .int .i64 0] 25 (0, 0)) from by first | exact (blk_below (g := gb290) (o := .cells #[.int .i64 0, .int .i64 0] 25 (0, 0)) (by (with_reducible repeat (first | refine blk_drew ?_ | refine blk_alloc ?_ _)); exact (Q_BK290 h0_ h1_)) hb))
      have z_BK291 := fun (h0_ : b 13 = true) (h1_ : b 16 = false) => (show w17.heap[gb291]? = some (.cells #[.int .i64 0, .int .i64 0] 25 (0, 0)) from by first | exact (blk_below (g := gb291) (o := .cells #[.int .i64 0, .int .i64 0] 25 (0, 0)) (by (with_reducible repeat (first | refine blk_drew ?_ | refine blk_alloc ?_ _)); exact (Q_BK291 h0_ h1_)) hb))
      have z_BK292 := fun (h0_ : b 14 = true) (h1_ : b 17 = false) => (show w17.heap[gb292]? = some (.cells #[.int .i64 0, .int .i64 0] 25 (0, 0)) from by first | exact (blk_below (g := gb292) (o := .cells #[.int .i64 0, .int .i64 0] 25 (0, 0)) (by (with_reducible repeat (first | refine blk_drew ?_ | refine blk_alloc ?_ _)); exact (Q_BK292 h0_ h1_)) hb))
      clear BK283
      clear HB
      have BK283 := n0_
      have HB := n1_
      clear n0_ n1_
      (try clear hb)
      (try clear hb2)
      (try clear hk)
      (try clear hi)
      refine hK.out _ _ ⟨gb290, gb291, gb292, m12_, m13_, m14_, (by rw [ha.out]; exact putSel_upk 8 hb_ rfl rfl rfl), (by (with_reducible repeat (first | refine blk_drew ?_ | refine blk_alloc ?_ _)); exact BK283.out), (by repeat (first | (with_reducible first | exact HB.out | apply below_alloc | apply below_drew1 | refine below_set ?_ GE283.out) | exact HB.out)), Q_NB291_290, Q_NB290_291, Q_NB292_290, Q_NB290_292, Q_NB292_291, Q_NB291_292, z_BK290, Q_GW290, Q_GE290, Q_NB283_290, Q_NB290_283, z_BK291, Q_GW291, Q_GE291, Q_NB283_291, Q_NB291_283, z_BK292, Q_GW292, Q_GE292, Q_NB283_292, Q_NB292_283, fun h0_ => absurd ((hoff 15 (by kernel_rfl)).symm.trans h0_) (by decide), fun h0_ => absurd ((hoff 16 (by kernel_rfl)).symm.trans h0_) (by decide), fun h0_ => absurd ((hoff 17 (by kernel_rfl)).symm.trans h0_) (by decide), Q_X12_, Q_X13_, Q_X14_⟩
    refine steps_cons ?_ ?_
    · rintro b a w' ⟨gb290, gb291, gb292, m12_, m13_, m14_, ha, Q_BK283, Q_HB, Q_NB291_290, Q_NB290_291, Q_NB292_290, Q_NB290_292, Q_NB292_291, Q_NB291_292, Q_BK290, Q_GW290, Q_GE290, Q_NB283_290, Q_NB290_283, Q_BK291, Q_GW291, Q_GE291, Q_NB283_291, Q_NB291_283, Q_BK292, Q_GW292, Q_GE292, Q_NB283_292, Q_NB292_283, Q_BK290_e15, Q_BK291_e16, Q_BK292_e17, Q_X12_, Q_X13_, Q_X14_⟩ hb_ hon hoff
      refine ⟨_, rfl, fun K hK => ?_⟩
      replace ha := Aside0.mk ha
      have BK283 := Aside0.mk Q_BK283
      have HB := Aside0.mk Q_HB
      refine box_step ?hg (N := 11) ?hd (cs := #[.int .i64 0, .int .i64 0]) (t := 25) ?hr ?_; (case hd => rfl); (case hg => rfl); (case hr => first | (go_simp; done) | (go_simp; rfl))
      intro gb290 hg w14 hbox hb
      have n0_ := Aside0.mk (blk_below (g := gb283) (o := .cells #[.int .u8 a3_0, .int .u8 a3_1, .int .u8 a3_2] 42 (0, 0)) BK283.out hb)
      have n1_ := Aside0.mk (below_step (by repeat (first | (with_reducible first | exact HB.out | apply below_alloc | apply below_drew1 | refine below_set ?_ GE283.out) | exact HB.out)) hb)
      have n2_ := Aside0.mk (hbox)
      have n3_ := Aside0.mk ((by rw [hg]; exact (below_size (by repeat (first | (with_reducible first | exact HB.out | apply below_alloc | apply below_drew1 | refine below_set ?_ GE283.out) | exact HB.out))) : w.heap.size ≤ gb290))
      have n4_ := Aside0.mk ((by rw [hg]; exact (below_size (by repeat (first | (with_reducible first | exact HB.out | apply below_alloc | apply below_drew1 | refine below_set ?_ GE283.out) | exact HB.out))) : w.heap.size ≤ gb290))
      have n5_ := Aside0.mk ((by rw [hg]; exact Nat.ne_of_lt (blk_lt (g := gb283) (o := .cells #[.int .u8 a3_0, .int .u8 a3_1, .int .u8 a3_2] 42 (0, 0)) BK283.out) : gb283 ≠ gb290))
      have n6_ := Aside0.mk ((by rw [hg]; exact Nat.ne_of_gt (blk_lt (g := gb283) (o := .cells #[.int .u8 a3_0, .int .u8 a3_1, .int .u8 a3_2] 42 (0, 0)) BK283.out) : gb290 ≠ gb283))
      have z_NB291_290 := fun (h0_ : up b 12 12 = true) (h1_ : up b 12 13 = true) => (show gb291 ≠ gb290 from ((by rw [hg]; exact Nat.ne_of_lt (blk_lt (g := gb291) (o := .cells #[.int .i64 0, .int .i64 0] 25 (0, 0)) (by (with_reducible repeat (first | refine blk_drew ?_ | refine blk_alloc ?_ _)); exact (Q_BK291 h1_ (hoff 16 (by kernel_rfl))))) : gb291 ≠ gb290)))
      have z_NB290_291 := fun (h0_ : up b 12 12 = true) (h1_ : up b 12 13 = true) => (show gb290 ≠ gb291 from ((by rw [hg]; exact Nat.ne_of_gt (blk_lt (g := gb291) (o := .cells #[.int .i64 0, .int .i64 0] 25 (0, 0)) (by (with_reducible repeat (first | refine blk_drew ?_ | refine blk_alloc ?_ _)); exact (Q_BK291 h1_ (hoff 16 (by kernel_rfl))))) : gb290 ≠ gb291)))
      have z_NB292_290 := fun (h0_ : up b 12 12 = true) (h1_ : up b 12 14 = true) => (show gb292 ≠ gb290 from ((by rw [hg]; exact Nat.ne_of_lt (blk_lt (g := gb292) (o := .cells #[.int .i64 0, .int .i64 0] 25 (0, 0)) (by (with_reducible repeat (first | refine blk_drew ?_ | refine blk_alloc ?_ _)); exact (Q_BK292 h1_ (hoff 17 (by kernel_rfl))))) : gb292 ≠ gb290)))
      have z_NB290_292 := fun (h0_ : up b 12 12 = true) (h1_ : up b 12 14 = true) => (show gb290 ≠ gb292 from ((by rw [hg]; exact Nat.ne_of_gt (blk_lt (g := gb292) (o := .cells #[.int .i64 0, .int .i64 0] 25 (0, 0)) (by (with_reducible repeat (first | refine blk_drew ?_ | refine blk_alloc ?_ _)); exact (Q_BK292 h1_ (hoff 17 (by kernel_rfl))))) : gb290 ≠ gb292)))
      have z_BK291 := fun (h0_ : b 13 = true) (h1_ : b 16 = false) => (show w14.heap[gb291]? = some (.cells #[.int .i64 0, .int .i64 0] 25 (0, 0)) from by first | exact (blk_below (g := gb291) (o := .cells #[.int .i64 0, .int .i64 0] 25 (0, 0)) (by (with_reducible repeat (first | refine blk_drew ?_ | refine blk_alloc ?_ _)); exact (Q_BK291 h0_ h1_)) hb))
      have z_BK292 := fun (h0_ : b 14 = true) (h1_ : b 17 = false) => (show w14.heap[gb292]? = some (.cells #[.int .i64 0, .int .i64 0] 25 (0, 0)) from by first | exact (blk_below (g := gb292) (o := .cells #[.int .i64 0, .int .i64 0] 25 (0, 0)) (by (with_reducible repeat (first | refine blk_drew ?_ | refine blk_alloc ?_ _)); exact (Q_BK292 h0_ h1_)) hb))
      clear BK283
      clear HB
      have BK283 := n0_
      have HB := n1_
      have BK290 := n2_
      have GW290 := n3_
      have GE290 := n4_
      have NB283_290 := n5_
      have NB290_283 := n6_
      clear n0_ n1_ n2_ n3_ n4_ n5_ n6_
      clear hb hbox hg
      refine hK.out _ _ ⟨gb290, gb291, gb292, (.pointer (some ⟨gb290, 0, none⟩)), m13_, m14_, (by rw [ha.out]; exact putSel_upk 9 hb_ rfl rfl rfl), (by (with_reducible repeat (first | refine blk_drew ?_ | refine blk_alloc ?_ _)); exact BK283.out), (by repeat (first | (with_reducible first | exact HB.out | apply below_alloc | apply below_drew1 | refine below_set ?_ GE283.out | refine below_set ?_ GE290.out) | exact HB.out)), z_NB291_290, z_NB290_291, z_NB292_290, z_NB290_292, Q_NB292_291, Q_NB291_292, fun _ _ => (by (with_reducible repeat (first | refine blk_drew ?_ | refine blk_alloc ?_ _)); exact BK290.out), fun _ => GW290.out, fun _ => GE290.out, fun _ => NB283_290.out, fun _ => NB290_283.out, z_BK291, Q_GW291, Q_GE291, Q_NB283_291, Q_NB291_283, z_BK292, Q_GW292, Q_GE292, Q_NB283_292, Q_NB292_283, fun h0_ => absurd ((hoff 15 (by kernel_rfl)).symm.trans h0_) (by decide), fun h0_ => absurd ((hoff 16 (by kernel_rfl)).symm.trans h0_) (by decide), fun h0_ => absurd ((hoff 17 (by kernel_rfl)).symm.trans h0_) (by decide), fun _ => rfl, Q_X13_, Q_X14_⟩
    refine steps_cons ?_ ?_
    · rintro b a w' ⟨gb290, gb291, gb292, m12_, m13_, m14_, ha, Q_BK283, Q_HB, Q_NB291_290, Q_NB290_291, Q_NB292_290, Q_NB290_292, Q_NB292_291, Q_NB291_292, Q_BK290, Q_GW290, Q_GE290, Q_NB283_290, Q_NB290_283, Q_BK291, Q_GW291, Q_GE291, Q_NB283_291, Q_NB291_283, Q_BK292, Q_GW292, Q_GE292, Q_NB283_292, Q_NB292_283, Q_BK290_e15, Q_BK291_e16, Q_BK292_e17, Q_X12_, Q_X13_, Q_X14_⟩ hb_ hon hoff
      refine ⟨_, rfl, fun K hK => ?_⟩
      replace ha := Aside0.mk ha
      have BK283 := Aside0.mk Q_BK283
      have HB := Aside0.mk Q_HB
      refine box_step ?hg (N := 12) ?hd (cs := #[.int .i64 0, .int .i64 0]) (t := 25) ?hr ?_; (case hd => rfl); (case hg => rfl); (case hr => first | (go_simp; done) | (go_simp; rfl))
      intro gb291 hg w14 hbox hb
      have n0_ := Aside0.mk (blk_below (g := gb283) (o := .cells #[.int .u8 a3_0, .int .u8 a3_1, .int .u8 a3_2] 42 (0, 0)) BK283.out hb)
      have n1_ := Aside0.mk (below_step (by repeat (first | (with_reducible first | exact HB.out | apply below_alloc | apply below_drew1 | refine below_set ?_ GE283.out) | exact HB.out)) hb)
      have n2_ := Aside0.mk (hbox)
      have n3_ := Aside0.mk ((by rw [hg]; exact (below_size (by repeat (first | (with_reducible first | exact HB.out | apply below_alloc | apply below_drew1 | refine below_set ?_ GE283.out) | exact HB.out))) : w.heap.size ≤ gb291))
      have n4_ := Aside0.mk ((by rw [hg]; exact (below_size (by repeat (first | (with_reducible first | exact HB.out | apply below_alloc | apply below_drew1 | refine below_set ?_ GE283.out) | exact HB.out))) : w.heap.size ≤ gb291))
      have n5_ := Aside0.mk ((by rw [hg]; exact Nat.ne_of_lt (blk_lt (g := gb283) (o := .cells #[.int .u8 a3_0, .int .u8 a3_1, .int .u8 a3_2] 42 (0, 0)) BK283.out) : gb283 ≠ gb291))
      have n6_ := Aside0.mk ((by rw [hg]; exact Nat.ne_of_gt (blk_lt (g := gb283) (o := .cells #[.int .u8 a3_0, .int .u8 a3_1, .int .u8 a3_2] 42 (0, 0)) BK283.out) : gb291 ≠ gb283))
      have z_NB291_290 := fun (h0_ : up b 13 12 = true) (h1_ : up b 13 13 = true) => (show gb291 ≠ gb290 from ((by rw [hg]; exact Nat.ne_of_gt (blk_lt (g := gb290) (o := .cells #[.int .i64 0, .int .i64 0] 25 (0, 0)) (by (with_reducible repeat (first | refine blk_drew ?_ | refine blk_alloc ?_ _)); exact (Q_BK290 h0_ (hoff 15 (by kernel_rfl))))) : gb291 ≠ gb290)))
      have z_NB290_291 := fun (h0_ : up b 13 12 = true) (h1_ : up b 13 13 = true) => (show gb290 ≠ gb291 from ((by rw [hg]; exact Nat.ne_of_lt (blk_lt (g := gb290) (o := .cells #[.int .i64 0, .int .i64 0] 25 (0, 0)) (by (with_reducible repeat (first | refine blk_drew ?_ | refine blk_alloc ?_ _)); exact (Q_BK290 h0_ (hoff 15 (by kernel_rfl))))) : gb290 ≠ gb291)))
      have z_NB292_291 := fun (h0_ : up b 13 13 = true) (h1_ : up b 13 14 = true) => (show gb292 ≠ gb291 from ((by rw [hg]; exact Nat.ne_of_lt (blk_lt (g := gb292) (o := .cells #[.int .i64 0, .int .i64 0] 25 (0, 0)) (by (with_reducible repeat (first | refine blk_drew ?_ | refine blk_alloc ?_ _)); exact (Q_BK292 h1_ (hoff 17 (by kernel_rfl))))) : gb292 ≠ gb291)))
      have z_NB291_292 := fun (h0_ : up b 13 13 = true) (h1_ : up b 13 14 = true) => (show gb291 ≠ gb292 from ((by rw [hg]; exact Nat.ne_of_gt (blk_lt (g := gb292) (o := .cells #[.int .i64 0, .int .i64 0] 25 (0, 0)) (by (with_reducible repeat (first | refine blk_drew ?_ | refine blk_alloc ?_ _)); exact (Q_BK292 h1_ (hoff 17 (by kernel_rfl))))) : gb291 ≠ gb292)))
      have z_BK290 := fun (h0_ : b 12 = true) (h1_ : b 15 = false) => (show w14.heap[gb290]? = some (.cells #[.int .i64 0, .int .i64 0] 25 (0, 0)) from by first | exact (blk_below (g := gb290) (o := .cells #[.int .i64 0, .int .i64 0] 25 (0, 0)) (by (with_reducible repeat (first | refine blk_drew ?_ | refine blk_alloc ?_ _)); exact (Q_BK290 h0_ h1_)) hb))
      have z_BK292 := fun (h0_ : b 14 = true) (h1_ : b 17 = false) => (show w14.heap[gb292]? = some (.cells #[.int .i64 0, .int .i64 0] 25 (0, 0)) from by first | exact (blk_below (g := gb292) (o := .cells #[.int .i64 0, .int .i64 0] 25 (0, 0)) (by (with_reducible repeat (first | refine blk_drew ?_ | refine blk_alloc ?_ _)); exact (Q_BK292 h0_ h1_)) hb))
      clear BK283
      clear HB
      have BK283 := n0_
      have HB := n1_
      have BK291 := n2_
      have GW291 := n3_
      have GE291 := n4_
      have NB283_291 := n5_
      have NB291_283 := n6_
      clear n0_ n1_ n2_ n3_ n4_ n5_ n6_
      clear hb hbox hg
      refine hK.out _ _ ⟨gb290, gb291, gb292, m12_, (.pointer (some ⟨gb291, 0, none⟩)), m14_, (by rw [ha.out]; exact putSel_upk 10 hb_ rfl rfl rfl), (by (with_reducible repeat (first | refine blk_drew ?_ | refine blk_alloc ?_ _)); exact BK283.out), (by repeat (first | (with_reducible first | exact HB.out | apply below_alloc | apply below_drew1 | refine below_set ?_ GE283.out | refine below_set ?_ GE291.out) | exact HB.out)), z_NB291_290, z_NB290_291, Q_NB292_290, Q_NB290_292, z_NB292_291, z_NB291_292, z_BK290, Q_GW290, Q_GE290, Q_NB283_290, Q_NB290_283, fun _ _ => (by (with_reducible repeat (first | refine blk_drew ?_ | refine blk_alloc ?_ _)); exact BK291.out), fun _ => GW291.out, fun _ => GE291.out, fun _ => NB283_291.out, fun _ => NB291_283.out, z_BK292, Q_GW292, Q_GE292, Q_NB283_292, Q_NB292_283, fun h0_ => absurd ((hoff 15 (by kernel_rfl)).symm.trans h0_) (by decide), fun h0_ => absurd ((hoff 16 (by kernel_rfl)).symm.trans h0_) (by decide), fun h0_ => absurd ((hoff 17 (by kernel_rfl)).symm.trans h0_) (by decide), Q_X12_, fun _ => rfl, Q_X14_⟩
    refine steps_cons ?_ ?_
    · rintro b a w' ⟨gb290, gb291, gb292, m12_, m13_, m14_, ha, Q_BK283, Q_HB, Q_NB291_290, Q_NB290_291, Q_NB292_290, Q_NB290_292, Q_NB292_291, Q_NB291_292, Q_BK290, Q_GW290, Q_GE290, Q_NB283_290, Q_NB290_283, Q_BK291, Q_GW291, Q_GE291, Q_NB283_291, Q_NB291_283, Q_BK292, Q_GW292, Q_GE292, Q_NB283_292, Q_NB292_283, Q_BK290_e15, Q_BK291_e16, Q_BK292_e17, Q_X12_, Q_X13_, Q_X14_⟩ hb_ hon hoff
      refine ⟨_, rfl, fun K hK => ?_⟩
      replace ha := Aside0.mk ha
      have BK283 := Aside0.mk Q_BK283
      have HB := Aside0.mk Q_HB
      refine box_step ?hg (N := 13) ?hd (cs := #[.int .i64 0, .int .i64 0]) (t := 25) ?hr ?_; (case hd => rfl); (case hg => rfl); (case hr => first | (go_simp; done) | (go_simp; rfl))
      intro gb292 hg w14 hbox hb
      have n0_ := Aside0.mk (blk_below (g := gb283) (o := .cells #[.int .u8 a3_0, .int .u8 a3_1, .int .u8 a3_2] 42 (0, 0)) BK283.out hb)
      have n1_ := Aside0.mk (below_step (by repeat (first | (with_reducible first | exact HB.out | apply below_alloc | apply below_drew1 | refine below_set ?_ GE283.out) | exact HB.out)) hb)
      have n2_ := Aside0.mk (hbox)
      have n3_ := Aside0.mk ((by rw [hg]; exact (below_size (by repeat (first | (with_reducible first | exact HB.out | apply below_alloc | apply below_drew1 | refine below_set ?_ GE283.out) | exact HB.out))) : w.heap.size ≤ gb292))
      have n4_ := Aside0.mk ((by rw [hg]; exact (below_size (by repeat (first | (with_reducible first | exact HB.out | apply below_alloc | apply below_drew1 | refine below_set ?_ GE283.out) | exact HB.out))) : w.heap.size ≤ gb292))
      have n5_ := Aside0.mk ((by rw [hg]; exact Nat.ne_of_lt (blk_lt (g := gb283) (o := .cells #[.int .u8 a3_0, .int .u8 a3_1, .int .u8 a3_2] 42 (0, 0)) BK283.out) : gb283 ≠ gb292))
      have n6_ := Aside0.mk ((by rw [hg]; exact Nat.ne_of_gt (blk_lt (g := gb283) (o := .cells #[.int .u8 a3_0, .int .u8 a3_1, .int .u8 a3_2] 42 (0, 0)) BK283.out) : gb292 ≠ gb283))
      have z_NB292_290 := fun (h0_ : up b 14 12 = true) (h1_ : up b 14 14 = true) => (show gb292 ≠ gb290 from ((by rw [hg]; exact Nat.ne_of_gt (blk_lt (g := gb290) (o := .cells #[.int .i64 0, .int .i64 0] 25 (0, 0)) (by (with_reducible repeat (first | refine blk_drew ?_ | refine blk_alloc ?_ _)); exact (Q_BK290 h0_ (hoff 15 (by kernel_rfl))))) : gb292 ≠ gb290)))
      have z_NB290_292 := fun (h0_ : up b 14 12 = true) (h1_ : up b 14 14 = true) => (show gb290 ≠ gb292 from ((by rw [hg]; exact Nat.ne_of_lt (blk_lt (g := gb290) (o := .cells #[.int .i64 0, .int .i64 0] 25 (0, 0)) (by (with_reducible repeat (first | refine blk_drew ?_ | refine blk_alloc ?_ _)); exact (Q_BK290 h0_ (hoff 15 (by kernel_rfl))))) : gb290 ≠ gb292)))
      have z_NB292_291 := fun (h0_ : up b 14 13 = true) (h1_ : up b 14 14 = true) => (show gb292 ≠ gb291 from ((by rw [hg]; exact Nat.ne_of_gt (blk_lt (g := gb291) (o := .cells #[.int .i64 0, .int .i64 0] 25 (0, 0)) (by (with_reducible repeat (first | refine blk_drew ?_ | refine blk_alloc ?_ _)); exact (Q_BK291 h0_ (hoff 16 (by kernel_rfl))))) : gb292 ≠ gb291)))
      have z_NB291_292 := fun (h0_ : up b 14 13 = true) (h1_ : up b 14 14 = true) => (show gb291 ≠ gb292 from ((by rw [hg]; exact Nat.ne_of_lt (blk_lt (g := gb291) (o := .cells #[.int .i64 0, .int .i64 0] 25 (0, 0)) (by (with_reducible repeat (first | refine blk_drew ?_ | refine blk_alloc ?_ _)); exact (Q_BK291 h0_ (hoff 16 (by kernel_rfl))))) : gb291 ≠ gb292)))
      have z_BK290 := fun (h0_ : b 12 = true) (h1_ : b 15 = false) => (show w14.heap[gb290]? = some (.cells #[.int .i64 0, .int .i64 0] 25 (0, 0)) from by first | exact (blk_below (g := gb290) (o := .cells #[.int .i64 0, .int .i64 0] 25 (0, 0)) (by (with_reducible repeat (first | refine blk_drew ?_ | refine blk_alloc ?_ _)); exact (Q_BK290 h0_ h1_)) hb))
      have z_BK291 := fun (h0_ : b 13 = true) (h1_ : b 16 = false) => (show w14.heap[gb291]? = some (.cells #[.int .i64 0, .int .i64 0] 25 (0, 0)) from by first | exact (blk_below (g := gb291) (o := .cells #[.int .i64 0, .int .i64 0] 25 (0, 0)) (by (with_reducible repeat (first | refine blk_drew ?_ | refine blk_alloc ?_ _)); exact (Q_BK291 h0_ h1_)) hb))
      clear BK283
      clear HB
      have BK283 := n0_
      have HB := n1_
      have BK292 := n2_
      have GW292 := n3_
      have GE292 := n4_
      have NB283_292 := n5_
      have NB292_283 := n6_
      clear n0_ n1_ n2_ n3_ n4_ n5_ n6_
      clear hb hbox hg
      refine hK.out _ _ ⟨gb290, gb291, gb292, m12_, m13_, (.pointer (some ⟨gb292, 0, none⟩)), (by rw [ha.out]; exact putSel_upk 11 hb_ rfl rfl rfl), (by (with_reducible repeat (first | refine blk_drew ?_ | refine blk_alloc ?_ _)); exact BK283.out), (by repeat (first | (with_reducible first | exact HB.out | apply below_alloc | apply below_drew1 | refine below_set ?_ GE283.out | refine below_set ?_ GE292.out) | exact HB.out)), Q_NB291_290, Q_NB290_291, z_NB292_290, z_NB290_292, z_NB292_291, z_NB291_292, z_BK290, Q_GW290, Q_GE290, Q_NB283_290, Q_NB290_283, z_BK291, Q_GW291, Q_GE291, Q_NB283_291, Q_NB291_283, fun _ _ => (by (with_reducible repeat (first | refine blk_drew ?_ | refine blk_alloc ?_ _)); exact BK292.out), fun _ => GW292.out, fun _ => GE292.out, fun _ => NB283_292.out, fun _ => NB292_283.out, fun h0_ => absurd ((hoff 15 (by kernel_rfl)).symm.trans h0_) (by decide), fun h0_ => absurd ((hoff 16 (by kernel_rfl)).symm.trans h0_) (by decide), fun h0_ => absurd ((hoff 17 (by kernel_rfl)).symm.trans h0_) (by decide), Q_X12_, Q_X13_, fun _ => rfl⟩
    refine steps_cons ?_ ?_
    · rintro b a w' ⟨gb290, gb291, gb292, m12_, m13_, m14_, ha, Q_BK283, Q_HB, Q_NB291_290, Q_NB290_291, Q_NB292_290, Q_NB290_292, Q_NB292_291, Q_NB291_292, Q_BK290, Q_GW290, Q_GE290, Q_NB283_290, Q_NB290_283, Q_BK291, Q_GW291, Q_GE291, Q_NB283_291, Q_NB291_283, Q_BK292, Q_GW292, Q_GE292, Q_NB283_292, Q_NB292_283, Q_BK290_e15, Q_BK291_e16, Q_BK292_e17, Q_X12_, Q_X13_, Q_X14_⟩ hb_ hon hoff
      refine ⟨_, rfl, fun K hK => ?_⟩
      have e11 : a.tmps[11]? = some (m12_) := by rw [ha]; exact putSel_on (e := (12, 11, m12_)) 9 rfl rfl (hon 12 (by kernel_rfl)) rfl
      rw [Q_X12_ (hon 12 (by kernel_rfl))] at e11
      have e20 : a.tmps[20]? = some (.agg #[.int .i64 t284, .int .i64 t285]) := by rw [ha]; exact putSel_on (e := (3, 20, .agg #[.int .i64 t284, .int .i64 t285])) 2 rfl rfl (hon 3 (by kernel_rfl)) rfl
      replace ha := Aside0.mk ha
      have BK283 := Aside0.mk Q_BK283
      have HB := Aside0.mk Q_HB
      have NB291_290 := Aside0.mk (Q_NB291_290 (hon 12 (by kernel_rfl)) (hon 13 (by kernel_rfl)))
      have NB290_291 := Aside0.mk (Q_NB290_291 (hon 12 (by kernel_rfl)) (hon 13 (by kernel_rfl)))
      have NB292_290 := Aside0.mk (Q_NB292_290 (hon 12 (by kernel_rfl)) (hon 14 (by kernel_rfl)))
      have NB290_292 := Aside0.mk (Q_NB290_292 (hon 12 (by kernel_rfl)) (hon 14 (by kernel_rfl)))
      have NB292_291 := Aside0.mk (Q_NB292_291 (hon 13 (by kernel_rfl)) (hon 14 (by kernel_rfl)))
      have NB291_292 := Aside0.mk (Q_NB291_292 (hon 13 (by kernel_rfl)) (hon 14 (by kernel_rfl)))
      have BK290 := Aside0.mk (Q_BK290 (hon 12 (by kernel_rfl)) hb_)
      have GW290 := Aside0.mk (Q_GW290 (hon 12 (by kernel_rfl)))
      have GE290 := Aside0.mk (Q_GE290 (hon 12 (by kernel_rfl)))
      have NB283_290 := Aside0.mk (Q_NB283_290 (hon 12 (by kernel_rfl)))
      have NB290_283 := Aside0.mk (Q_NB290_283 (hon 12 (by kernel_rfl)))
      have BK291 := Aside0.mk (Q_BK291 (hon 13 (by kernel_rfl)) (hoff 16 (by kernel_rfl)))
      have GW291 := Aside0.mk (Q_GW291 (hon 13 (by kernel_rfl)))
      have GE291 := Aside0.mk (Q_GE291 (hon 13 (by kernel_rfl)))
      have NB283_291 := Aside0.mk (Q_NB283_291 (hon 13 (by kernel_rfl)))
      have NB291_283 := Aside0.mk (Q_NB291_283 (hon 13 (by kernel_rfl)))
      have BK292 := Aside0.mk (Q_BK292 (hon 14 (by kernel_rfl)) (hoff 17 (by kernel_rfl)))
      have GW292 := Aside0.mk (Q_GW292 (hon 14 (by kernel_rfl)))
      have GE292 := Aside0.mk (Q_GE292 (hon 14 (by kernel_rfl)))
      have NB283_292 := Aside0.mk (Q_NB283_292 (hon 14 (by kernel_rfl)))
      have NB292_283 := Aside0.mk (Q_NB292_283 (hon 14 (by kernel_rfl)))
      have hs21 : w'.cell? ⟨gb290, 0, none⟩ = some (.int .i64 0) := (blk_cell BK290.out 0).trans rfl
      have hfs21 := blk_frozen BK290.out 0
      have hns21_0 := NB283_290.out
      have hns21_2 := NB291_290.out
      have hns21_3 := NB292_290.out
      have hms21_0 := NB290_283.out
      have hms21_2 := NB290_291.out
      have hms21_3 := NB290_292.out
      have hs22 : w'.cell? ⟨gb290, 1, none⟩ = some (.int .i64 0) := (blk_cell BK290.out 1).trans rfl
      have hfs22 := blk_frozen BK290.out 1
      have hns22_0 := NB283_290.out
      have hns22_2 := NB291_290.out
      have hns22_3 := NB292_290.out
      have hms22_0 := NB290_283.out
      have hms22_2 := NB290_291.out
      have hms22_3 := NB290_292.out
      refine skip_ (w1 := ?_) (by rfl) rfl ?_ ?_
      rotate_left
      · go_simp
        rfl
      refine hK.out _ _ ⟨gb290, gb291, gb292, m12_, m13_, m14_, (by rw [ha.out]; exact putSel_none (v := undef) rfl), (by (with_reducible repeat (first | refine blk_drew ?_ | refine blk_alloc ?_ _)); refine blk_far ?_ NB283_290.out _; (with_reducible repeat (first | refine blk_drew ?_ | refine blk_alloc ?_ _)); refine blk_far ?_ NB283_290.out _; (with_reducible repeat (first | refine blk_drew ?_ | refine blk_alloc ?_ _)); exact BK283.out), (by repeat (first | (with_reducible first | exact HB.out | apply below_alloc | apply below_drew1 | refine below_set ?_ GE283.out | refine below_set ?_ GE290.out | refine below_set ?_ GE291.out | refine below_set ?_ GE292.out) | exact HB.out)), fun _ _ => NB291_290.out, fun _ _ => NB290_291.out, fun _ _ => NB292_290.out, fun _ _ => NB290_292.out, fun _ _ => NB292_291.out, fun _ _ => NB291_292.out, fun _ h1_ => absurd ((up_self b 15).symm.trans h1_) (by decide), fun _ => GW290.out, fun _ => GE290.out, fun _ => NB283_290.out, fun _ => NB290_283.out, fun _ _ => (by (with_reducible repeat (first | refine blk_drew ?_ | refine blk_alloc ?_ _)); refine blk_far ?_ NB291_290.out _; (with_reducible repeat (first | refine blk_drew ?_ | refine blk_alloc ?_ _)); refine blk_far ?_ NB291_290.out _; (with_reducible repeat (first | refine blk_drew ?_ | refine blk_alloc ?_ _)); exact BK291.out), fun _ => GW291.out, fun _ => GE291.out, fun _ => NB283_291.out, fun _ => NB291_283.out, fun _ _ => (by (with_reducible repeat (first | refine blk_drew ?_ | refine blk_alloc ?_ _)); refine blk_far ?_ NB292_290.out _; (with_reducible repeat (first | refine blk_drew ?_ | refine blk_alloc ?_ _)); refine blk_far ?_ NB292_290.out _; (with_reducible repeat (first | refine blk_drew ?_ | refine blk_alloc ?_ _)); exact BK292.out), fun _ => GW292.out, fun _ => GE292.out, fun _ => NB283_292.out, fun _ => NB292_283.out, fun _ => (by (with_reducible repeat (first | refine blk_drew ?_ | refine blk_alloc ?_ _)); refine blk_put (cs := #[.int .i64 t284, .int .i64 0]) ?_ 1 _ rfl; (with_reducible repeat (first | refine blk_drew ?_ | refine blk_alloc ?_ _)); refine blk_put (cs := #[.int .i64 0, .int .i64 0]) ?_ 0 _ rfl; (with_reducible repeat (first | refine blk_drew ?_ | refine blk_alloc ?_ _)); exact BK290.out), fun h0_ => absurd ((hoff 16 (by kernel_rfl)).symm.trans h0_) (by decide), fun h0_ => absurd ((hoff 17 (by kernel_rfl)).symm.trans h0_) (by decide), Q_X12_, Q_X13_, Q_X14_⟩
    refine steps_cons ?_ ?_
    · rintro b a w' ⟨gb290, gb291, gb292, m12_, m13_, m14_, ha, Q_BK283, Q_HB, Q_NB291_290, Q_NB290_291, Q_NB292_290, Q_NB290_292, Q_NB292_291, Q_NB291_292, Q_BK290, Q_GW290, Q_GE290, Q_NB283_290, Q_NB290_283, Q_BK291, Q_GW291, Q_GE291, Q_NB283_291, Q_NB291_283, Q_BK292, Q_GW292, Q_GE292, Q_NB283_292, Q_NB292_283, Q_BK290_e15, Q_BK291_e16, Q_BK292_e17, Q_X12_, Q_X13_, Q_X14_⟩ hb_ hon hoff
      refine ⟨_, rfl, fun K hK => ?_⟩
      have e12 : a.tmps[12]? = some (m13_) := by rw [ha]; exact putSel_on (e := (13, 12, m13_)) 10 rfl rfl (hon 13 (by kernel_rfl)) rfl
      rw [Q_X13_ (hon 13 (by kernel_rfl))] at e12
      have e24 : a.tmps[24]? = some (.agg #[.int .i64 t286, .int .i64 t287]) := by rw [ha]; exact putSel_on (e := (7, 24, .agg #[.int .i64 t286, .int .i64 t287])) 5 rfl rfl (hon 7 (by kernel_rfl)) rfl
      replace ha := Aside0.mk ha
      have BK283 := Aside0.mk Q_BK283
      have HB := Aside0.mk Q_HB
      have NB291_290 := Aside0.mk (Q_NB291_290 (hon 12 (by kernel_rfl)) (hon 13 (by kernel_rfl)))
      have NB290_291 := Aside0.mk (Q_NB290_291 (hon 12 (by kernel_rfl)) (hon 13 (by kernel_rfl)))
      have NB292_290 := Aside0.mk (Q_NB292_290 (hon 12 (by kernel_rfl)) (hon 14 (by kernel_rfl)))
      have NB290_292 := Aside0.mk (Q_NB290_292 (hon 12 (by kernel_rfl)) (hon 14 (by kernel_rfl)))
      have NB292_291 := Aside0.mk (Q_NB292_291 (hon 13 (by kernel_rfl)) (hon 14 (by kernel_rfl)))
      have NB291_292 := Aside0.mk (Q_NB291_292 (hon 13 (by kernel_rfl)) (hon 14 (by kernel_rfl)))
      have GW290 := Aside0.mk (Q_GW290 (hon 12 (by kernel_rfl)))
      have GE290 := Aside0.mk (Q_GE290 (hon 12 (by kernel_rfl)))
      have NB283_290 := Aside0.mk (Q_NB283_290 (hon 12 (by kernel_rfl)))
      have NB290_283 := Aside0.mk (Q_NB290_283 (hon 12 (by kernel_rfl)))
      have BK291 := Aside0.mk (Q_BK291 (hon 13 (by kernel_rfl)) hb_)
      have GW291 := Aside0.mk (Q_GW291 (hon 13 (by kernel_rfl)))
      have GE291 := Aside0.mk (Q_GE291 (hon 13 (by kernel_rfl)))
      have NB283_291 := Aside0.mk (Q_NB283_291 (hon 13 (by kernel_rfl)))
      have NB291_283 := Aside0.mk (Q_NB291_283 (hon 13 (by kernel_rfl)))
      have BK292 := Aside0.mk (Q_BK292 (hon 14 (by kernel_rfl)) (hoff 17 (by kernel_rfl)))
      have GW292 := Aside0.mk (Q_GW292 (hon 14 (by kernel_rfl)))
      have GE292 := Aside0.mk (Q_GE292 (hon 14 (by kernel_rfl)))
      have NB283_292 := Aside0.mk (Q_NB283_292 (hon 14 (by kernel_rfl)))
      have NB292_283 := Aside0.mk (Q_NB292_283 (hon 14 (by kernel_rfl)))
      have BK290 := Aside0.mk (Q_BK290_e15 (hon 15 (by kernel_rfl)))
      have hs23 : w'.cell? ⟨gb291, 0, none⟩ = some (.int .i64 0) := (blk_cell BK291.out 0).trans rfl
      have hfs23 := blk_frozen BK291.out 0
      have hns23_0 := NB283_291.out
      have hns23_1 := NB290_291.out
      have hns23_3 := NB292_291.out
      have hms23_0 := NB291_283.out
      have hms23_1 := NB291_290.out
      have hms23_3 := NB291_292.out
      have hs24 : w'.cell? ⟨gb291, 1, none⟩ = some (.int .i64 0) := (blk_cell BK291.out 1).trans rfl
      have hfs24 := blk_frozen BK291.out 1
      have hns24_0 := NB283_291.out
      have hns24_1 := NB290_291.out
      have hns24_3 := NB292_291.out
      have hms24_0 := NB291_283.out
      have hms24_1 := NB291_290.out
      have hms24_3 := NB291_292.out
      refine skip_ (w1 := ?_) (by rfl) rfl ?_ ?_
      rotate_left
      · go_simp
        rfl
      refine hK.out _ _ ⟨gb290, gb291, gb292, m12_, m13_, m14_, (by rw [ha.out]; exact putSel_none (v := undef) rfl), (by (with_reducible repeat (first | refine blk_drew ?_ | refine blk_alloc ?_ _)); refine blk_far ?_ NB283_291.out _; (with_reducible repeat (first | refine blk_drew ?_ | refine blk_alloc ?_ _)); refine blk_far ?_ NB283_291.out _; (with_reducible repeat (first | refine blk_drew ?_ | refine blk_alloc ?_ _)); exact BK283.out), (by repeat (first | (with_reducible first | exact HB.out | apply below_alloc | apply below_drew1 | refine below_set ?_ GE283.out | refine below_set ?_ GE290.out | refine below_set ?_ GE291.out | refine below_set ?_ GE292.out) | exact HB.out)), fun _ _ => NB291_290.out, fun _ _ => NB290_291.out, fun _ _ => NB292_290.out, fun _ _ => NB290_292.out, fun _ _ => NB292_291.out, fun _ _ => NB291_292.out, fun _ h1_ => absurd ((hon 15 (by kernel_rfl)).symm.trans h1_) (by decide), fun _ => GW290.out, fun _ => GE290.out, fun _ => NB283_290.out, fun _ => NB290_283.out, fun _ h1_ => absurd ((up_self b 16).symm.trans h1_) (by decide), fun _ => GW291.out, fun _ => GE291.out, fun _ => NB283_291.out, fun _ => NB291_283.out, fun _ _ => (by (with_reducible repeat (first | refine blk_drew ?_ | refine blk_alloc ?_ _)); refine blk_far ?_ NB292_291.out _; (with_reducible repeat (first | refine blk_drew ?_ | refine blk_alloc ?_ _)); refine blk_far ?_ NB292_291.out _; (with_reducible repeat (first | refine blk_drew ?_ | refine blk_alloc ?_ _)); exact BK292.out), fun _ => GW292.out, fun _ => GE292.out, fun _ => NB283_292.out, fun _ => NB292_283.out, fun _ => (by (with_reducible repeat (first | refine blk_drew ?_ | refine blk_alloc ?_ _)); refine blk_far ?_ NB290_291.out _; (with_reducible repeat (first | refine blk_drew ?_ | refine blk_alloc ?_ _)); refine blk_far ?_ NB290_291.out _; (with_reducible repeat (first | refine blk_drew ?_ | refine blk_alloc ?_ _)); exact BK290.out), fun _ => (by (with_reducible repeat (first | refine blk_drew ?_ | refine blk_alloc ?_ _)); refine blk_put (cs := #[.int .i64 t286, .int .i64 0]) ?_ 1 _ rfl; (with_reducible repeat (first | refine blk_drew ?_ | refine blk_alloc ?_ _)); refine blk_put (cs := #[.int .i64 0, .int .i64 0]) ?_ 0 _ rfl; (with_reducible repeat (first | refine blk_drew ?_ | refine blk_alloc ?_ _)); exact BK291.out), fun h0_ => absurd ((hoff 17 (by kernel_rfl)).symm.trans h0_) (by decide), Q_X12_, Q_X13_, Q_X14_⟩
    refine steps_cons ?_ ?_
    · rintro b a w' ⟨gb290, gb291, gb292, m12_, m13_, m14_, ha, Q_BK283, Q_HB, Q_NB291_290, Q_NB290_291, Q_NB292_290, Q_NB290_292, Q_NB292_291, Q_NB291_292, Q_BK290, Q_GW290, Q_GE290, Q_NB283_290, Q_NB290_283, Q_BK291, Q_GW291, Q_GE291, Q_NB283_291, Q_NB291_283, Q_BK292, Q_GW292, Q_GE292, Q_NB283_292, Q_NB292_283, Q_BK290_e15, Q_BK291_e16, Q_BK292_e17, Q_X12_, Q_X13_, Q_X14_⟩ hb_ hon hoff
      refine ⟨_, rfl, fun K hK => ?_⟩
      have e13 : a.tmps[13]? = some (m14_) := by rw [ha]; exact putSel_on (e := (14, 13, m14_)) 11 rfl rfl (hon 14 (by kernel_rfl)) rfl
      rw [Q_X14_ (hon 14 (by kernel_rfl))] at e13
      have e28 : a.tmps[28]? = some (.agg #[.int .i64 t288, .int .i64 t289]) := by rw [ha]; exact putSel_on (e := (11, 28, .agg #[.int .i64 t288, .int .i64 t289])) 8 rfl rfl (hon 11 (by kernel_rfl)) rfl
      replace ha := Aside0.mk ha
      have BK283 := Aside0.mk Q_BK283
      have HB := Aside0.mk Q_HB
      have NB291_290 := Aside0.mk (Q_NB291_290 (hon 12 (by kernel_rfl)) (hon 13 (by kernel_rfl)))
      have NB290_291 := Aside0.mk (Q_NB290_291 (hon 12 (by kernel_rfl)) (hon 13 (by kernel_rfl)))
      have NB292_290 := Aside0.mk (Q_NB292_290 (hon 12 (by kernel_rfl)) (hon 14 (by kernel_rfl)))
      have NB290_292 := Aside0.mk (Q_NB290_292 (hon 12 (by kernel_rfl)) (hon 14 (by kernel_rfl)))
      have NB292_291 := Aside0.mk (Q_NB292_291 (hon 13 (by kernel_rfl)) (hon 14 (by kernel_rfl)))
      have NB291_292 := Aside0.mk (Q_NB291_292 (hon 13 (by kernel_rfl)) (hon 14 (by kernel_rfl)))
      have GW290 := Aside0.mk (Q_GW290 (hon 12 (by kernel_rfl)))
      have GE290 := Aside0.mk (Q_GE290 (hon 12 (by kernel_rfl)))
      have NB283_290 := Aside0.mk (Q_NB283_290 (hon 12 (by kernel_rfl)))
      have NB290_283 := Aside0.mk (Q_NB290_283 (hon 12 (by kernel_rfl)))
      have GW291 := Aside0.mk (Q_GW291 (hon 13 (by kernel_rfl)))
      have GE291 := Aside0.mk (Q_GE291 (hon 13 (by kernel_rfl)))
      have NB283_291 := Aside0.mk (Q_NB283_291 (hon 13 (by kernel_rfl)))
      have NB291_283 := Aside0.mk (Q_NB291_283 (hon 13 (by kernel_rfl)))
      have BK292 := Aside0.mk (Q_BK292 (hon 14 (by kernel_rfl)) hb_)
      have GW292 := Aside0.mk (Q_GW292 (hon 14 (by kernel_rfl)))
      have GE292 := Aside0.mk (Q_GE292 (hon 14 (by kernel_rfl)))
      have NB283_292 := Aside0.mk (Q_NB283_292 (hon 14 (by kernel_rfl)))
      have NB292_283 := Aside0.mk (Q_NB292_283 (hon 14 (by kernel_rfl)))
      have BK290 := Aside0.mk (Q_BK290_e15 (hon 15 (by kernel_rfl)))
      have BK291 := Aside0.mk (Q_BK291_e16 (hon 16 (by kernel_rfl)))
      have hs25 : w'.cell? ⟨gb292, 0, none⟩ = some (.int .i64 0) := (blk_cell BK292.out 0).trans rfl
      have hfs25 := blk_frozen BK292.out 0
      have hns25_0 := NB283_292.out
      have hns25_1 := NB290_292.out
      have hns25_2 := NB291_292.out
      have hms25_0 := NB292_283.out
      have hms25_1 := NB292_290.out
      have hms25_2 := NB292_291.out
      have hs26 : w'.cell? ⟨gb292, 1, none⟩ = some (.int .i64 0) := (blk_cell BK292.out 1).trans rfl
      have hfs26 := blk_frozen BK292.out 1
      have hns26_0 := NB283_292.out
      have hns26_1 := NB290_292.out
      have hns26_2 := NB291_292.out
      have hms26_0 := NB292_283.out
      have hms26_1 := NB292_290.out
      have hms26_2 := NB292_291.out
      refine skip_ (w1 := ?_) (by rfl) rfl ?_ ?_
      rotate_left
      · go_simp
        rfl
      refine hK.out _ _ ⟨gb290, gb291, gb292, m12_, m13_, m14_, (by rw [ha.out]; exact putSel_none (v := undef) rfl), (by (with_reducible repeat (first | refine blk_drew ?_ | refine blk_alloc ?_ _)); refine blk_far ?_ NB283_292.out _; (with_reducible repeat (first | refine blk_drew ?_ | refine blk_alloc ?_ _)); refine blk_far ?_ NB283_292.out _; (with_reducible repeat (first | refine blk_drew ?_ | refine blk_alloc ?_ _)); exact BK283.out), (by repeat (first | (with_reducible first | exact HB.out | apply below_alloc | apply below_drew1 | refine below_set ?_ GE283.out | refine below_set ?_ GE290.out | refine below_set ?_ GE291.out | refine below_set ?_ GE292.out) | exact HB.out)), fun _ _ => NB291_290.out, fun _ _ => NB290_291.out, fun _ _ => NB292_290.out, fun _ _ => NB290_292.out, fun _ _ => NB292_291.out, fun _ _ => NB291_292.out, fun _ h1_ => absurd ((hon 15 (by kernel_rfl)).symm.trans h1_) (by decide), fun _ => GW290.out, fun _ => GE290.out, fun _ => NB283_290.out, fun _ => NB290_283.out, fun _ h1_ => absurd ((hon 16 (by kernel_rfl)).symm.trans h1_) (by decide), fun _ => GW291.out, fun _ => GE291.out, fun _ => NB283_291.out, fun _ => NB291_283.out, fun _ h1_ => absurd ((up_self b 17).symm.trans h1_) (by decide), fun _ => GW292.out, fun _ => GE292.out, fun _ => NB283_292.out, fun _ => NB292_283.out, fun _ => (by (with_reducible repeat (first | refine blk_drew ?_ | refine blk_alloc ?_ _)); refine blk_far ?_ NB290_292.out _; (with_reducible repeat (first | refine blk_drew ?_ | refine blk_alloc ?_ _)); refine blk_far ?_ NB290_292.out _; (with_reducible repeat (first | refine blk_drew ?_ | refine blk_alloc ?_ _)); exact BK290.out), fun _ => (by (with_reducible repeat (first | refine blk_drew ?_ | refine blk_alloc ?_ _)); refine blk_far ?_ NB291_292.out _; (with_reducible repeat (first | refine blk_drew ?_ | refine blk_alloc ?_ _)); refine blk_far ?_ NB291_292.out _; (with_reducible repeat (first | refine blk_drew ?_ | refine blk_alloc ?_ _)); exact BK291.out), fun _ => (by (with_reducible repeat (first | refine blk_drew ?_ | refine blk_alloc ?_ _)); refine blk_put (cs := #[.int .i64 t288, .int .i64 0]) ?_ 1 _ rfl; (with_reducible repeat (first | refine blk_drew ?_ | refine blk_alloc ?_ _)); refine blk_put (cs := #[.int .i64 0, .int .i64 0]) ?_ 0 _ rfl; (with_reducible repeat (first | refine blk_drew ?_ | refine blk_alloc ?_ _)); exact BK292.out), Q_X12_, Q_X13_, Q_X14_⟩
    exact steps_nil
  rintro b a w26 hall ⟨gb290, gb291, gb292, m12_, m13_, m14_, ha, Q_BK283, Q_HB, Q_NB291_290, Q_NB290_291, Q_NB292_290, Q_NB290_292, Q_NB292_291, Q_NB291_292, Q_BK290, Q_GW290, Q_GE290, Q_NB283_290, Q_NB290_283, Q_BK291, Q_GW291, Q_GE291, Q_NB283_291, Q_NB291_283, Q_BK292, Q_GW292, Q_GE292, Q_NB283_292, Q_NB292_283, Q_BK290_e15, Q_BK291_e16, Q_BK292_e17, Q_X12_, Q_X13_, Q_X14_⟩
  clear BK283 HB
  have hb1_ := hall 1 (by kernel_rfl)
  have hb2_ := hall 2 (by kernel_rfl)
  have hb3_ := hall 3 (by kernel_rfl)
  have hb5_ := hall 5 (by kernel_rfl)
  have hb6_ := hall 6 (by kernel_rfl)
  have hb7_ := hall 7 (by kernel_rfl)
  have hb9_ := hall 9 (by kernel_rfl)
  have hb10_ := hall 10 (by kernel_rfl)
  have hb11_ := hall 11 (by kernel_rfl)
  have hb12_ := hall 12 (by kernel_rfl)
  have hb13_ := hall 13 (by kernel_rfl)
  have hb14_ := hall 14 (by kernel_rfl)
  have hb15_ := hall 15 (by kernel_rfl)
  have hb16_ := hall 16 (by kernel_rfl)
  have hb17_ := hall 17 (by kernel_rfl)
  subst ha
  obtain rfl := Q_X12_ hb12_
  obtain rfl := Q_X13_ hb13_
  obtain rfl := Q_X14_ hb14_
  simp only [putSel, hb1_, hb2_, hb3_, hb5_, hb6_, hb7_, hb9_, hb10_, hb11_, hb12_, hb13_, hb14_, hb15_, hb16_, hb17_, if_true, Act.put, sA, sB, sC]
  have BK283 := Aside0.mk Q_BK283
  clear Q_BK283
  have HB := Aside0.mk Q_HB
  clear Q_HB
  have NB291_290 := Aside0.mk (Q_NB291_290 hb12_ hb13_)
  clear Q_NB291_290
  have NB290_291 := Aside0.mk (Q_NB290_291 hb12_ hb13_)
  clear Q_NB290_291
  have NB292_290 := Aside0.mk (Q_NB292_290 hb12_ hb14_)
  clear Q_NB292_290
  have NB290_292 := Aside0.mk (Q_NB290_292 hb12_ hb14_)
  clear Q_NB290_292
  have NB292_291 := Aside0.mk (Q_NB292_291 hb13_ hb14_)
  clear Q_NB292_291
  have NB291_292 := Aside0.mk (Q_NB291_292 hb13_ hb14_)
  clear Q_NB291_292
  clear Q_BK290
  have GW290 := Aside0.mk (Q_GW290 hb12_)
  clear Q_GW290
  have GE290 := Aside0.mk (Q_GE290 hb12_)
  clear Q_GE290
  have NB283_290 := Aside0.mk (Q_NB283_290 hb12_)
  clear Q_NB283_290
  have NB290_283 := Aside0.mk (Q_NB290_283 hb12_)
  clear Q_NB290_283
  clear Q_BK291
  have GW291 := Aside0.mk (Q_GW291 hb13_)
  clear Q_GW291
  have GE291 := Aside0.mk (Q_GE291 hb13_)
  clear Q_GE291
  have NB283_291 := Aside0.mk (Q_NB283_291 hb13_)
  clear Q_NB283_291
  have NB291_283 := Aside0.mk (Q_NB291_283 hb13_)
  clear Q_NB291_283
  clear Q_BK292
  have GW292 := Aside0.mk (Q_GW292 hb14_)
  clear Q_GW292
  have GE292 := Aside0.mk (Q_GE292 hb14_)
  clear Q_GE292
  have NB283_292 := Aside0.mk (Q_NB283_292 hb14_)
  clear Q_NB283_292
  have NB292_283 := Aside0.mk (Q_NB292_283 hb14_)
  clear Q_NB292_283
  have BK290 := Aside0.mk (Q_BK290_e15 hb15_)
  clear Q_BK290_e15
  have BK291 := Aside0.mk (Q_BK291_e16 hb16_)
  clear Q_BK291_e16
  have BK292 := Aside0.mk (Q_BK292_e17 hb17_)
  clear Q_BK292_e17
  clear hall hb1_ hb2_ hb3_ hb5_ hb6_ hb7_ hb9_ hb10_ hb11_ hb12_ hb13_ hb14_ hb15_ hb16_ hb17_
  try go_wp2
  have n0_ := Aside0.mk (blk_drew BK283.out)
  have n1_ := Aside0.mk (blk_drew BK290.out)
  have n2_ := Aside0.mk (blk_drew BK291.out)
  have n3_ := Aside0.mk (blk_drew BK292.out)
  have n4_ := Aside0.mk (below_drew1 HB.out)
  clear BK283
  clear BK290
  clear BK291
  clear BK292
  clear HB
  have BK283 := n0_
  have BK290 := n1_
  have BK291 := n2_
  have BK292 := n3_
  have HB := n4_
  clear n0_ n1_ n2_ n3_ n4_
  refine start_ (n := 10) (S := fun w' => True) (ds := []) #[Z, Z, Z, Z, Z, Z, Z, Z, Z, Z] (by kernel_rfl) rfl rfl trivial (fun hHeld => ?_); refine with_tabW timeboundlaw08_CongruenceLattice.tab2 timeboundlaw08_CongruenceLattice.bits2 (fun HT_ HW_ => ?_)
  generalize w26.drew = w27 at BK283 BK290 BK291 BK292 HB hHeld ⊢
  refine inv_at [0, 1, 2, 3, 4, 5, 6, 7, 8, 9] (fun a0_ b a w' => ∃ (gb297 : Nat) (gb298 : Nat) (m6_ : Value) (m7_ : Value), a = putSel a0_ b [(0, 29, .agg #[.int .i64 t284, .int .i64 t285]), (1, 30, .agg #[.int .i64 t286, .int .i64 t287]), (2, 31, .agg #[.int .i64 t293, .int .i64 t294]), (3, 32, .agg #[.int .i64 t284, .int .i64 t285]), (4, 33, .agg #[.int .i64 t286, .int .i64 t287]), (5, 34, .agg #[.int .i64 t295, .int .i64 t296]), (6, 14, m6_), (7, 15, m7_)] ∧ (w'.heap[gb283]? = some (.cells #[.int .u8 a3_0, .int .u8 a3_1, .int .u8 a3_2] 42 (0, 0))) ∧ (w'.heap[gb290]? = some (.cells #[.int .i64 t284, .int .i64 t285] 25 (0, 0))) ∧ (w'.heap[gb291]? = some (.cells #[.int .i64 t286, .int .i64 t287] 25 (0, 0))) ∧ (w'.heap[gb292]? = some (.cells #[.int .i64 t288, .int .i64 t289] 25 (0, 0))) ∧ (Below w.heap.size w w') ∧ (b 6 = true → b 7 = true → gb298 ≠ gb297) ∧ (b 6 = true → b 7 = true → gb297 ≠ gb298) ∧ (b 6 = true → b 8 = false → w'.heap[gb297]? = some (.cells #[.int .i64 0, .int .i64 0] 25 (0, 0))) ∧ (b 6 = true → w.heap.size ≤ gb297) ∧ (b 6 = true → w.heap.size ≤ gb297) ∧ (b 6 = true → gb283 ≠ gb297) ∧ (b 6 = true → gb297 ≠ gb283) ∧ (b 6 = true → gb290 ≠ gb297) ∧ (b 6 = true → gb297 ≠ gb290) ∧ (b 6 = true → gb291 ≠ gb297) ∧ (b 6 = true → gb297 ≠ gb291) ∧ (b 6 = true → gb292 ≠ gb297) ∧ (b 6 = true → gb297 ≠ gb292) ∧ (b 7 = true → b 9 = false → w'.heap[gb298]? = some (.cells #[.int .i64 0, .int .i64 0] 25 (0, 0))) ∧ (b 7 = true → w.heap.size ≤ gb298) ∧ (b 7 = true → w.heap.size ≤ gb298) ∧ (b 7 = true → gb283 ≠ gb298) ∧ (b 7 = true → gb298 ≠ gb283) ∧ (b 7 = true → gb290 ≠ gb298) ∧ (b 7 = true → gb298 ≠ gb290) ∧ (b 7 = true → gb291 ≠ gb298) ∧ (b 7 = true → gb298 ≠ gb291) ∧ (b 7 = true → gb292 ≠ gb298) ∧ (b 7 = true → gb298 ≠ gb292) ∧ (b 8 = true → w'.heap[gb297]? = some (.cells #[.int .i64 t293, .int .i64 t294] 25 (0, 0))) ∧ (b 9 = true → w'.heap[gb298]? = some (.cells #[.int .i64 t295, .int .i64 t296] 25 (0, 0))) ∧ (b 6 = true → (m6_ : Value) = .pointer (some ⟨gb297, 0, none⟩)) ∧ (b 7 = true → (m7_ : Value) = .pointer (some ⟨gb298, 0, none⟩))) HT_.out HW_.out (by kernel_rfl) (by kernel_rfl) ?_ ?_ ?_
  · exact ⟨0, 0, .bool false, .bool false, by simp only [putSel, Bool.false_eq_true, if_false], BK283.out, BK290.out, BK291.out, BK292.out, HB.out, fun h_ => absurd h_ (by decide), fun h_ => absurd h_ (by decide), fun h_ => absurd h_ (by decide), fun h_ => absurd h_ (by decide), fun h_ => absurd h_ (by decide), fun h_ => absurd h_ (by decide), fun h_ => absurd h_ (by decide), fun h_ => absurd h_ (by decide), fun h_ => absurd h_ (by decide), fun h_ => absurd h_ (by decide), fun h_ => absurd h_ (by decide), fun h_ => absurd h_ (by decide), fun h_ => absurd h_ (by decide), fun h_ => absurd h_ (by decide), fun h_ => absurd h_ (by decide), fun h_ => absurd h_ (by decide), fun h_ => absurd h_ (by decide), fun h_ => absurd h_ (by decide), fun h_ => absurd h_ (by decide), fun h_ => absurd h_ (by decide), fun h_ => absurd h_ (by decide), fun h_ => absurd h_ (by decide), fun h_ => absurd h_ (by decide), fun h_ => absurd h_ (by decide), fun h_ => absurd h_ (by decide), fun h_ => absurd h_ (by decide), fun h_ => absurd h_ (by decide), fun h_ => absurd h_ (by decide)⟩
  · skip
    clear BK283 BK290 BK291 BK292 HB
    refine steps_cons ?_ ?_
    · rintro b a w' ⟨gb297, gb298, m6_, m7_, ha, Q_BK283, Q_BK290, Q_BK291, Q_BK292, Q_HB, Q_NB298_297, Q_NB297_298, Q_BK297, Q_GW297, Q_GE297, Q_NB283_297, Q_NB297_283, Q_NB290_297, Q_NB297_290, Q_NB291_297, Q_NB297_291, Q_NB292_297, Q_NB297_292, Q_BK298, Q_GW298, Q_GE298, Q_NB283_298, Q_NB298_283, Q_NB290_298, Q_NB298_290, Q_NB291_298, Q_NB298_291, Q_NB292_298, Q_NB298_292, Q_BK297_e8, Q_BK298_e9, Q_X6_, Q_X7_⟩ hb_ hon hoff
      refine ⟨_, rfl, fun K hK => ?_⟩
      have e11 : a.tmps[11]? = some (.pointer (some ⟨gb290, 0, none⟩)) := by rw [ha]; exact (putSel_off rfl).trans rfl
      replace ha := Aside0.mk ha
      have BK283 := Aside0.mk Q_BK283
      have BK290 := Aside0.mk Q_BK290
      have BK291 := Aside0.mk Q_BK291
      have BK292 := Aside0.mk Q_BK292
      have HB := Aside0.mk Q_HB
      have hc0_ : w'.cell? ⟨gb290, 0, none⟩ = some (.int .i64 t284) := (blk_cell BK290.out 0).trans rfl
      have hc1_ : w'.cell? ⟨gb290, 1, none⟩ = some (.int .i64 t285) := (blk_cell BK290.out 1).trans rfl
      refine value_ (w1 := w') (v := .agg #[.int .i64 t284, .int .i64 t285]) (by rfl) rfl ?_ ?_
      · go_simp
        (try simp only [i64_w])
        try rfl
      refine hK.out _ _ ⟨gb297, gb298, m6_, m7_, (by rw [ha.out]; exact putSel_upk 0 hb_ rfl rfl rfl), Q_BK283, Q_BK290, Q_BK291, Q_BK292, Q_HB, Q_NB298_297, Q_NB297_298, Q_BK297, Q_GW297, Q_GE297, Q_NB283_297, Q_NB297_283, Q_NB290_297, Q_NB297_290, Q_NB291_297, Q_NB297_291, Q_NB292_297, Q_NB297_292, Q_BK298, Q_GW298, Q_GE298, Q_NB283_298, Q_NB298_283, Q_NB290_298, Q_NB298_290, Q_NB291_298, Q_NB298_291, Q_NB292_298, Q_NB298_292, fun h0_ => absurd ((hoff 8 (by kernel_rfl)).symm.trans h0_) (by decide), fun h0_ => absurd ((hoff 9 (by kernel_rfl)).symm.trans h0_) (by decide), Q_X6_, Q_X7_⟩
    refine steps_cons ?_ ?_
    · rintro b a w' ⟨gb297, gb298, m6_, m7_, ha, Q_BK283, Q_BK290, Q_BK291, Q_BK292, Q_HB, Q_NB298_297, Q_NB297_298, Q_BK297, Q_GW297, Q_GE297, Q_NB283_297, Q_NB297_283, Q_NB290_297, Q_NB297_290, Q_NB291_297, Q_NB297_291, Q_NB292_297, Q_NB297_292, Q_BK298, Q_GW298, Q_GE298, Q_NB283_298, Q_NB298_283, Q_NB290_298, Q_NB298_290, Q_NB291_298, Q_NB298_291, Q_NB292_298, Q_NB298_292, Q_BK297_e8, Q_BK298_e9, Q_X6_, Q_X7_⟩ hb_ hon hoff
      refine ⟨_, rfl, fun K hK => ?_⟩
      have e12 : a.tmps[12]? = some (.pointer (some ⟨gb291, 0, none⟩)) := by rw [ha]; exact (putSel_off rfl).trans rfl
      replace ha := Aside0.mk ha
      have BK283 := Aside0.mk Q_BK283
      have BK290 := Aside0.mk Q_BK290
      have BK291 := Aside0.mk Q_BK291
      have BK292 := Aside0.mk Q_BK292
      have HB := Aside0.mk Q_HB
      have hc0_ : w'.cell? ⟨gb291, 0, none⟩ = some (.int .i64 t286) := (blk_cell BK291.out 0).trans rfl
      have hc1_ : w'.cell? ⟨gb291, 1, none⟩ = some (.int .i64 t287) := (blk_cell BK291.out 1).trans rfl
      refine value_ (w1 := w') (v := .agg #[.int .i64 t286, .int .i64 t287]) (by rfl) rfl ?_ ?_
      · go_simp
        (try simp only [i64_w])
        try rfl
      refine hK.out _ _ ⟨gb297, gb298, m6_, m7_, (by rw [ha.out]; exact putSel_upk 1 hb_ rfl rfl rfl), Q_BK283, Q_BK290, Q_BK291, Q_BK292, Q_HB, Q_NB298_297, Q_NB297_298, Q_BK297, Q_GW297, Q_GE297, Q_NB283_297, Q_NB297_283, Q_NB290_297, Q_NB297_290, Q_NB291_297, Q_NB297_291, Q_NB292_297, Q_NB297_292, Q_BK298, Q_GW298, Q_GE298, Q_NB283_298, Q_NB298_283, Q_NB290_298, Q_NB298_290, Q_NB291_298, Q_NB298_291, Q_NB292_298, Q_NB298_292, fun h0_ => absurd ((hoff 8 (by kernel_rfl)).symm.trans h0_) (by decide), fun h0_ => absurd ((hoff 9 (by kernel_rfl)).symm.trans h0_) (by decide), Q_X6_, Q_X7_⟩
    refine steps_cons ?_ ?_
    · rintro b a w' ⟨gb297, gb298, m6_, m7_, ha, Q_BK283, Q_BK290, Q_BK291, Q_BK292, Q_HB, Q_NB298_297, Q_NB297_298, Q_BK297, Q_GW297, Q_GE297, Q_NB283_297, Q_NB297_283, Q_NB290_297, Q_NB297_290, Q_NB291_297, Q_NB297_291, Q_NB292_297, Q_NB297_292, Q_BK298, Q_GW298, Q_GE298, Q_NB283_298, Q_NB298_283, Q_NB290_298, Q_NB298_290, Q_NB291_298, Q_NB298_291, Q_NB292_298, Q_NB298_292, Q_BK297_e8, Q_BK298_e9, Q_X6_, Q_X7_⟩ hb_ hon hoff
      refine ⟨_, rfl, fun K hK => ?_⟩
      have e29 : a.tmps[29]? = some (.agg #[.int .i64 t284, .int .i64 t285]) := by rw [ha]; exact putSel_on (e := (0, 29, .agg #[.int .i64 t284, .int .i64 t285])) 0 rfl rfl (hon 0 (by kernel_rfl)) rfl
      have e30 : a.tmps[30]? = some (.agg #[.int .i64 t286, .int .i64 t287]) := by rw [ha]; exact putSel_on (e := (1, 30, .agg #[.int .i64 t286, .int .i64 t287])) 1 rfl rfl (hon 1 (by kernel_rfl)) rfl
      replace ha := Aside0.mk ha
      have BK283 := Aside0.mk Q_BK283
      have BK290 := Aside0.mk Q_BK290
      have BK291 := Aside0.mk Q_BK291
      have BK292 := Aside0.mk Q_BK292
      have HB := Aside0.mk Q_HB
      refine goes_ Tryd.func22 (by kernel_rfl) rfl #[.agg #[.int .i64 t284, .int .i64 t285], .agg #[.int .i64 t286, .int .i64 t287]] (by rfl) rfl rfl (by first | (simp only [List.map_toArray, List.map_cons, List.map_nil, Act.eval, Array.getD_eq_getD_getElem?, Option.getD_some, e29, e30]; done) | (simp only [List.map_toArray, List.map_cons, List.map_nil, Act.eval, Array.getD_eq_getD_getElem?, Option.getD_some, e29, e30]; rfl)) ?_
      with_reducible refine (congruence_Join.calls k t284 t285 t286 t287 t293 t294 _ A9.out (Go.Proofs.YtaphfmbloappkaaDoor.TabOK.below hT.out (by repeat (first | (with_reducible first | exact HB.out | apply below_alloc | apply below_drew1 | refine below_set ?_ GE283.out | refine below_set ?_ GE290.out | refine below_set ?_ GE291.out | refine below_set ?_ GE292.out) | exact HB.out)))).mono ?_
      rintro e w28 ⟨rfl, hb⟩
      refine ⟨_, rfl, ?_⟩
      have n0_ := Aside0.mk (blk_below (g := gb283) (o := .cells #[.int .u8 a3_0, .int .u8 a3_1, .int .u8 a3_2] 42 (0, 0)) BK283.out hb)
      have n1_ := Aside0.mk (blk_below (g := gb290) (o := .cells #[.int .i64 t284, .int .i64 t285] 25 (0, 0)) BK290.out hb)
      have n2_ := Aside0.mk (blk_below (g := gb291) (o := .cells #[.int .i64 t286, .int .i64 t287] 25 (0, 0)) BK291.out hb)
      have n3_ := Aside0.mk (blk_below (g := gb292) (o := .cells #[.int .i64 t288, .int .i64 t289] 25 (0, 0)) BK292.out hb)
      have n4_ := Aside0.mk (below_step (by repeat (first | (with_reducible first | exact HB.out | apply below_alloc | apply below_drew1 | refine below_set ?_ GE283.out | refine below_set ?_ GE290.out | refine below_set ?_ GE291.out | refine below_set ?_ GE292.out) | exact HB.out)) hb)
      have z_BK297 := fun (h0_ : b 6 = true) (h1_ : b 8 = false) => (show w28.heap[gb297]? = some (.cells #[.int .i64 0, .int .i64 0] 25 (0, 0)) from by first | exact (blk_below (g := gb297) (o := .cells #[.int .i64 0, .int .i64 0] 25 (0, 0)) (by (with_reducible repeat (first | refine blk_drew ?_ | refine blk_alloc ?_ _)); exact (Q_BK297 h0_ h1_)) hb))
      have z_BK298 := fun (h0_ : b 7 = true) (h1_ : b 9 = false) => (show w28.heap[gb298]? = some (.cells #[.int .i64 0, .int .i64 0] 25 (0, 0)) from by first | exact (blk_below (g := gb298) (o := .cells #[.int .i64 0, .int .i64 0] 25 (0, 0)) (by (with_reducible repeat (first | refine blk_drew ?_ | refine blk_alloc ?_ _)); exact (Q_BK298 h0_ h1_)) hb))
      clear BK283
      clear BK290
      clear BK291
      clear BK292
      clear HB
      have BK283 := n0_
      have BK290 := n1_
      have BK291 := n2_
      have BK292 := n3_
      have HB := n4_
      clear n0_ n1_ n2_ n3_ n4_
      (try clear hb)
      (try clear hb2)
      (try clear hk)
      (try clear hi)
      refine hK.out _ _ ⟨gb297, gb298, m6_, m7_, (by rw [ha.out]; exact putSel_upk 2 hb_ rfl rfl rfl), (by (with_reducible repeat (first | refine blk_drew ?_ | refine blk_alloc ?_ _)); exact BK283.out), (by (with_reducible repeat (first | refine blk_drew ?_ | refine blk_alloc ?_ _)); exact BK290.out), (by (with_reducible repeat (first | refine blk_drew ?_ | refine blk_alloc ?_ _)); exact BK291.out), (by (with_reducible repeat (first | refine blk_drew ?_ | refine blk_alloc ?_ _)); exact BK292.out), (by repeat (first | (with_reducible first | exact HB.out | apply below_alloc | apply below_drew1 | refine below_set ?_ GE283.out | refine below_set ?_ GE290.out | refine below_set ?_ GE291.out | refine below_set ?_ GE292.out) | exact HB.out)), Q_NB298_297, Q_NB297_298, z_BK297, Q_GW297, Q_GE297, Q_NB283_297, Q_NB297_283, Q_NB290_297, Q_NB297_290, Q_NB291_297, Q_NB297_291, Q_NB292_297, Q_NB297_292, z_BK298, Q_GW298, Q_GE298, Q_NB283_298, Q_NB298_283, Q_NB290_298, Q_NB298_290, Q_NB291_298, Q_NB298_291, Q_NB292_298, Q_NB298_292, fun h0_ => absurd ((hoff 8 (by kernel_rfl)).symm.trans h0_) (by decide), fun h0_ => absurd ((hoff 9 (by kernel_rfl)).symm.trans h0_) (by decide), Q_X6_, Q_X7_⟩
    refine steps_cons ?_ ?_
    · rintro b a w' ⟨gb297, gb298, m6_, m7_, ha, Q_BK283, Q_BK290, Q_BK291, Q_BK292, Q_HB, Q_NB298_297, Q_NB297_298, Q_BK297, Q_GW297, Q_GE297, Q_NB283_297, Q_NB297_283, Q_NB290_297, Q_NB297_290, Q_NB291_297, Q_NB297_291, Q_NB292_297, Q_NB297_292, Q_BK298, Q_GW298, Q_GE298, Q_NB283_298, Q_NB298_283, Q_NB290_298, Q_NB298_290, Q_NB291_298, Q_NB298_291, Q_NB292_298, Q_NB298_292, Q_BK297_e8, Q_BK298_e9, Q_X6_, Q_X7_⟩ hb_ hon hoff
      refine ⟨_, rfl, fun K hK => ?_⟩
      have e11 : a.tmps[11]? = some (.pointer (some ⟨gb290, 0, none⟩)) := by rw [ha]; exact (putSel_off rfl).trans rfl
      replace ha := Aside0.mk ha
      have BK283 := Aside0.mk Q_BK283
      have BK290 := Aside0.mk Q_BK290
      have BK291 := Aside0.mk Q_BK291
      have BK292 := Aside0.mk Q_BK292
      have HB := Aside0.mk Q_HB
      have hc0_ : w'.cell? ⟨gb290, 0, none⟩ = some (.int .i64 t284) := (blk_cell BK290.out 0).trans rfl
      have hc1_ : w'.cell? ⟨gb290, 1, none⟩ = some (.int .i64 t285) := (blk_cell BK290.out 1).trans rfl
      refine value_ (w1 := w') (v := .agg #[.int .i64 t284, .int .i64 t285]) (by rfl) rfl ?_ ?_
      · go_simp
        (try simp only [i64_w])
        try rfl
      refine hK.out _ _ ⟨gb297, gb298, m6_, m7_, (by rw [ha.out]; exact putSel_upk 3 hb_ rfl rfl rfl), Q_BK283, Q_BK290, Q_BK291, Q_BK292, Q_HB, Q_NB298_297, Q_NB297_298, Q_BK297, Q_GW297, Q_GE297, Q_NB283_297, Q_NB297_283, Q_NB290_297, Q_NB297_290, Q_NB291_297, Q_NB297_291, Q_NB292_297, Q_NB297_292, Q_BK298, Q_GW298, Q_GE298, Q_NB283_298, Q_NB298_283, Q_NB290_298, Q_NB298_290, Q_NB291_298, Q_NB298_291, Q_NB292_298, Q_NB298_292, fun h0_ => absurd ((hoff 8 (by kernel_rfl)).symm.trans h0_) (by decide), fun h0_ => absurd ((hoff 9 (by kernel_rfl)).symm.trans h0_) (by decide), Q_X6_, Q_X7_⟩
    refine steps_cons ?_ ?_
    · rintro b a w' ⟨gb297, gb298, m6_, m7_, ha, Q_BK283, Q_BK290, Q_BK291, Q_BK292, Q_HB, Q_NB298_297, Q_NB297_298, Q_BK297, Q_GW297, Q_GE297, Q_NB283_297, Q_NB297_283, Q_NB290_297, Q_NB297_290, Q_NB291_297, Q_NB297_291, Q_NB292_297, Q_NB297_292, Q_BK298, Q_GW298, Q_GE298, Q_NB283_298, Q_NB298_283, Q_NB290_298, Q_NB298_290, Q_NB291_298, Q_NB298_291, Q_NB292_298, Q_NB298_292, Q_BK297_e8, Q_BK298_e9, Q_X6_, Q_X7_⟩ hb_ hon hoff
      refine ⟨_, rfl, fun K hK => ?_⟩
      have e12 : a.tmps[12]? = some (.pointer (some ⟨gb291, 0, none⟩)) := by rw [ha]; exact (putSel_off rfl).trans rfl
      replace ha := Aside0.mk ha
      have BK283 := Aside0.mk Q_BK283
      have BK290 := Aside0.mk Q_BK290
      have BK291 := Aside0.mk Q_BK291
      have BK292 := Aside0.mk Q_BK292
      have HB := Aside0.mk Q_HB
      have hc0_ : w'.cell? ⟨gb291, 0, none⟩ = some (.int .i64 t286) := (blk_cell BK291.out 0).trans rfl
      have hc1_ : w'.cell? ⟨gb291, 1, none⟩ = some (.int .i64 t287) := (blk_cell BK291.out 1).trans rfl
      refine value_ (w1 := w') (v := .agg #[.int .i64 t286, .int .i64 t287]) (by rfl) rfl ?_ ?_
      · go_simp
        (try simp only [i64_w])
        try rfl
      refine hK.out _ _ ⟨gb297, gb298, m6_, m7_, (by rw [ha.out]; exact putSel_upk 4 hb_ rfl rfl rfl), Q_BK283, Q_BK290, Q_BK291, Q_BK292, Q_HB, Q_NB298_297, Q_NB297_298, Q_BK297, Q_GW297, Q_GE297, Q_NB283_297, Q_NB297_283, Q_NB290_297, Q_NB297_290, Q_NB291_297, Q_NB297_291, Q_NB292_297, Q_NB297_292, Q_BK298, Q_GW298, Q_GE298, Q_NB283_298, Q_NB298_283, Q_NB290_298, Q_NB298_290, Q_NB291_298, Q_NB298_291, Q_NB292_298, Q_NB298_292, fun h0_ => absurd ((hoff 8 (by kernel_rfl)).symm.trans h0_) (by decide), fun h0_ => absurd ((hoff 9 (by kernel_rfl)).symm.trans h0_) (by decide), Q_X6_, Q_X7_⟩
    refine steps_cons ?_ ?_
    · rintro b a w' ⟨gb297, gb298, m6_, m7_, ha, Q_BK283, Q_BK290, Q_BK291, Q_BK292, Q_HB, Q_NB298_297, Q_NB297_298, Q_BK297, Q_GW297, Q_GE297, Q_NB283_297, Q_NB297_283, Q_NB290_297, Q_NB297_290, Q_NB291_297, Q_NB297_291, Q_NB292_297, Q_NB297_292, Q_BK298, Q_GW298, Q_GE298, Q_NB283_298, Q_NB298_283, Q_NB290_298, Q_NB298_290, Q_NB291_298, Q_NB298_291, Q_NB292_298, Q_NB298_292, Q_BK297_e8, Q_BK298_e9, Q_X6_, Q_X7_⟩ hb_ hon hoff
      refine ⟨_, rfl, fun K hK => ?_⟩
      have e32 : a.tmps[32]? = some (.agg #[.int .i64 t284, .int .i64 t285]) := by rw [ha]; exact putSel_on (e := (3, 32, .agg #[.int .i64 t284, .int .i64 t285])) 3 rfl rfl (hon 3 (by kernel_rfl)) rfl
      have e33 : a.tmps[33]? = some (.agg #[.int .i64 t286, .int .i64 t287]) := by rw [ha]; exact putSel_on (e := (4, 33, .agg #[.int .i64 t286, .int .i64 t287])) 4 rfl rfl (hon 4 (by kernel_rfl)) rfl
      replace ha := Aside0.mk ha
      have BK283 := Aside0.mk Q_BK283
      have BK290 := Aside0.mk Q_BK290
      have BK291 := Aside0.mk Q_BK291
      have BK292 := Aside0.mk Q_BK292
      have HB := Aside0.mk Q_HB
      refine goes_ Tryd.func23 (by kernel_rfl) rfl #[.agg #[.int .i64 t284, .int .i64 t285], .agg #[.int .i64 t286, .int .i64 t287]] (by rfl) rfl rfl (by first | (simp only [List.map_toArray, List.map_cons, List.map_nil, Act.eval, Array.getD_eq_getD_getElem?, Option.getD_some, e32, e33]; done) | (simp only [List.map_toArray, List.map_cons, List.map_nil, Act.eval, Array.getD_eq_getD_getElem?, Option.getD_some, e32, e33]; rfl)) ?_
      with_reducible refine (congruence_Meet.calls k t284 t285 t286 t287 t295 t296 _ A10.out).mono ?_
      rintro e w30 ⟨rfl, hb⟩
      refine ⟨_, rfl, ?_⟩
      have n0_ := Aside0.mk (blk_below (g := gb283) (o := .cells #[.int .u8 a3_0, .int .u8 a3_1, .int .u8 a3_2] 42 (0, 0)) BK283.out hb)
      have n1_ := Aside0.mk (blk_below (g := gb290) (o := .cells #[.int .i64 t284, .int .i64 t285] 25 (0, 0)) BK290.out hb)
      have n2_ := Aside0.mk (blk_below (g := gb291) (o := .cells #[.int .i64 t286, .int .i64 t287] 25 (0, 0)) BK291.out hb)
      have n3_ := Aside0.mk (blk_below (g := gb292) (o := .cells #[.int .i64 t288, .int .i64 t289] 25 (0, 0)) BK292.out hb)
      have n4_ := Aside0.mk (below_step (by repeat (first | (with_reducible first | exact HB.out | apply below_alloc | apply below_drew1 | refine below_set ?_ GE283.out | refine below_set ?_ GE290.out | refine below_set ?_ GE291.out | refine below_set ?_ GE292.out) | exact HB.out)) hb)
      have z_BK297 := fun (h0_ : b 6 = true) (h1_ : b 8 = false) => (show w30.heap[gb297]? = some (.cells #[.int .i64 0, .int .i64 0] 25 (0, 0)) from by first | exact (blk_below (g := gb297) (o := .cells #[.int .i64 0, .int .i64 0] 25 (0, 0)) (by (with_reducible repeat (first | refine blk_drew ?_ | refine blk_alloc ?_ _)); exact (Q_BK297 h0_ h1_)) hb))
      have z_BK298 := fun (h0_ : b 7 = true) (h1_ : b 9 = false) => (show w30.heap[gb298]? = some (.cells #[.int .i64 0, .int .i64 0] 25 (0, 0)) from by first | exact (blk_below (g := gb298) (o := .cells #[.int .i64 0, .int .i64 0] 25 (0, 0)) (by (with_reducible repeat (first | refine blk_drew ?_ | refine blk_alloc ?_ _)); exact (Q_BK298 h0_ h1_)) hb))
      clear BK283
      clear BK290
      clear BK291
      clear BK292
      clear HB
      have BK283 := n0_
      have BK290 := n1_
      have BK291 := n2_
      have BK292 := n3_
      have HB := n4_
      clear n0_ n1_ n2_ n3_ n4_
      (try clear hb)
      (try clear hb2)
      (try clear hk)
      (try clear hi)
      refine hK.out _ _ ⟨gb297, gb298, m6_, m7_, (by rw [ha.out]; exact putSel_upk 5 hb_ rfl rfl rfl), (by (with_reducible repeat (first | refine blk_drew ?_ | refine blk_alloc ?_ _)); exact BK283.out), (by (with_reducible repeat (first | refine blk_drew ?_ | refine blk_alloc ?_ _)); exact BK290.out), (by (with_reducible repeat (first | refine blk_drew ?_ | refine blk_alloc ?_ _)); exact BK291.out), (by (with_reducible repeat (first | refine blk_drew ?_ | refine blk_alloc ?_ _)); exact BK292.out), (by repeat (first | (with_reducible first | exact HB.out | apply below_alloc | apply below_drew1 | refine below_set ?_ GE283.out | refine below_set ?_ GE290.out | refine below_set ?_ GE291.out | refine below_set ?_ GE292.out) | exact HB.out)), Q_NB298_297, Q_NB297_298, z_BK297, Q_GW297, Q_GE297, Q_NB283_297, Q_NB297_283, Q_NB290_297, Q_NB297_290, Q_NB291_297, Q_NB297_291, Q_NB292_297, Q_NB297_292, z_BK298, Q_GW298, Q_GE298, Q_NB283_298, Q_NB298_283, Q_NB290_298, Q_NB298_290, Q_NB291_298, Q_NB298_291, Q_NB292_298, Q_NB298_292, fun h0_ => absurd ((hoff 8 (by kernel_rfl)).symm.trans h0_) (by decide), fun h0_ => absurd ((hoff 9 (by kernel_rfl)).symm.trans h0_) (by decide), Q_X6_, Q_X7_⟩
    refine steps_cons ?_ ?_
    · rintro b a w' ⟨gb297, gb298, m6_, m7_, ha, Q_BK283, Q_BK290, Q_BK291, Q_BK292, Q_HB, Q_NB298_297, Q_NB297_298, Q_BK297, Q_GW297, Q_GE297, Q_NB283_297, Q_NB297_283, Q_NB290_297, Q_NB297_290, Q_NB291_297, Q_NB297_291, Q_NB292_297, Q_NB297_292, Q_BK298, Q_GW298, Q_GE298, Q_NB283_298, Q_NB298_283, Q_NB290_298, Q_NB298_290, Q_NB291_298, Q_NB298_291, Q_NB292_298, Q_NB298_292, Q_BK297_e8, Q_BK298_e9, Q_X6_, Q_X7_⟩ hb_ hon hoff
      refine ⟨_, rfl, fun K hK => ?_⟩
      replace ha := Aside0.mk ha
      have BK283 := Aside0.mk Q_BK283
      have BK290 := Aside0.mk Q_BK290
      have BK291 := Aside0.mk Q_BK291
      have BK292 := Aside0.mk Q_BK292
      have HB := Aside0.mk Q_HB
      refine box_step ?hg (N := 14) ?hd (cs := #[.int .i64 0, .int .i64 0]) (t := 25) ?hr ?_; (case hd => rfl); (case hg => rfl); (case hr => first | (go_simp; done) | (go_simp; rfl))
      intro gb297 hg w28 hbox hb
      have n0_ := Aside0.mk (blk_below (g := gb283) (o := .cells #[.int .u8 a3_0, .int .u8 a3_1, .int .u8 a3_2] 42 (0, 0)) BK283.out hb)
      have n1_ := Aside0.mk (blk_below (g := gb290) (o := .cells #[.int .i64 t284, .int .i64 t285] 25 (0, 0)) BK290.out hb)
      have n2_ := Aside0.mk (blk_below (g := gb291) (o := .cells #[.int .i64 t286, .int .i64 t287] 25 (0, 0)) BK291.out hb)
      have n3_ := Aside0.mk (blk_below (g := gb292) (o := .cells #[.int .i64 t288, .int .i64 t289] 25 (0, 0)) BK292.out hb)
      have n4_ := Aside0.mk (below_step (by repeat (first | (with_reducible first | exact HB.out | apply below_alloc | apply below_drew1 | refine below_set ?_ GE283.out | refine below_set ?_ GE290.out | refine below_set ?_ GE291.out | refine below_set ?_ GE292.out) | exact HB.out)) hb)
      have n5_ := Aside0.mk (hbox)
      have n6_ := Aside0.mk ((by rw [hg]; exact (below_size (by repeat (first | (with_reducible first | exact HB.out | apply below_alloc | apply below_drew1 | refine below_set ?_ GE283.out | refine below_set ?_ GE290.out | refine below_set ?_ GE291.out | refine below_set ?_ GE292.out) | exact HB.out))) : w.heap.size ≤ gb297))
      have n7_ := Aside0.mk ((by rw [hg]; exact (below_size (by repeat (first | (with_reducible first | exact HB.out | apply below_alloc | apply below_drew1 | refine below_set ?_ GE283.out | refine below_set ?_ GE290.out | refine below_set ?_ GE291.out | refine below_set ?_ GE292.out) | exact HB.out))) : w.heap.size ≤ gb297))
      have n8_ := Aside0.mk ((by rw [hg]; exact Nat.ne_of_lt (blk_lt (g := gb283) (o := .cells #[.int .u8 a3_0, .int .u8 a3_1, .int .u8 a3_2] 42 (0, 0)) BK283.out) : gb283 ≠ gb297))
      have n9_ := Aside0.mk ((by rw [hg]; exact Nat.ne_of_gt (blk_lt (g := gb283) (o := .cells #[.int .u8 a3_0, .int .u8 a3_1, .int .u8 a3_2] 42 (0, 0)) BK283.out) : gb297 ≠ gb283))
      have n10_ := Aside0.mk ((by rw [hg]; exact Nat.ne_of_lt (blk_lt (g := gb290) (o := .cells #[.int .i64 t284, .int .i64 t285] 25 (0, 0)) BK290.out) : gb290 ≠ gb297))
      have n11_ := Aside0.mk ((by rw [hg]; exact Nat.ne_of_gt (blk_lt (g := gb290) (o := .cells #[.int .i64 t284, .int .i64 t285] 25 (0, 0)) BK290.out) : gb297 ≠ gb290))
      have n12_ := Aside0.mk ((by rw [hg]; exact Nat.ne_of_lt (blk_lt (g := gb291) (o := .cells #[.int .i64 t286, .int .i64 t287] 25 (0, 0)) BK291.out) : gb291 ≠ gb297))
      have n13_ := Aside0.mk ((by rw [hg]; exact Nat.ne_of_gt (blk_lt (g := gb291) (o := .cells #[.int .i64 t286, .int .i64 t287] 25 (0, 0)) BK291.out) : gb297 ≠ gb291))
      have n14_ := Aside0.mk ((by rw [hg]; exact Nat.ne_of_lt (blk_lt (g := gb292) (o := .cells #[.int .i64 t288, .int .i64 t289] 25 (0, 0)) BK292.out) : gb292 ≠ gb297))
      have n15_ := Aside0.mk ((by rw [hg]; exact Nat.ne_of_gt (blk_lt (g := gb292) (o := .cells #[.int .i64 t288, .int .i64 t289] 25 (0, 0)) BK292.out) : gb297 ≠ gb292))
      have z_NB298_297 := fun (h0_ : up b 6 6 = true) (h1_ : up b 6 7 = true) => (show gb298 ≠ gb297 from ((by rw [hg]; exact Nat.ne_of_lt (blk_lt (g := gb298) (o := .cells #[.int .i64 0, .int .i64 0] 25 (0, 0)) (by (with_reducible repeat (first | refine blk_drew ?_ | refine blk_alloc ?_ _)); exact (Q_BK298 h1_ (hoff 9 (by kernel_rfl))))) : gb298 ≠ gb297)))
      have z_NB297_298 := fun (h0_ : up b 6 6 = true) (h1_ : up b 6 7 = true) => (show gb297 ≠ gb298 from ((by rw [hg]; exact Nat.ne_of_gt (blk_lt (g := gb298) (o := .cells #[.int .i64 0, .int .i64 0] 25 (0, 0)) (by (with_reducible repeat (first | refine blk_drew ?_ | refine blk_alloc ?_ _)); exact (Q_BK298 h1_ (hoff 9 (by kernel_rfl))))) : gb297 ≠ gb298)))
      have z_BK298 := fun (h0_ : b 7 = true) (h1_ : b 9 = false) => (show w28.heap[gb298]? = some (.cells #[.int .i64 0, .int .i64 0] 25 (0, 0)) from by first | exact (blk_below (g := gb298) (o := .cells #[.int .i64 0, .int .i64 0] 25 (0, 0)) (by (with_reducible repeat (first | refine blk_drew ?_ | refine blk_alloc ?_ _)); exact (Q_BK298 h0_ h1_)) hb))
      clear BK283
      clear BK290
      clear BK291
      clear BK292
      clear HB
      have BK283 := n0_
      have BK290 := n1_
      have BK291 := n2_
      have BK292 := n3_
      have HB := n4_
      have BK297 := n5_
      have GW297 := n6_
      have GE297 := n7_
      have NB283_297 := n8_
      have NB297_283 := n9_
      have NB290_297 := n10_
      have NB297_290 := n11_
      have NB291_297 := n12_
      have NB297_291 := n13_
      have NB292_297 := n14_
      have NB297_292 := n15_
      clear n0_ n1_ n2_ n3_ n4_ n5_ n6_ n7_ n8_ n9_ n10_ n11_ n12_ n13_ n14_ n15_
      clear hb hbox hg
      refine hK.out _ _ ⟨gb297, gb298, (.pointer (some ⟨gb297, 0, none⟩)), m7_, (by rw [ha.out]; exact putSel_upk 6 hb_ rfl rfl rfl), (by (with_reducible repeat (first | refine blk_drew ?_ | refine blk_alloc ?_ _)); exact BK283.out), (by (with_reducible repeat (first | refine blk_drew ?_ | refine blk_alloc ?_ _)); exact BK290.out), (by (with_reducible repeat (first | refine blk_drew ?_ | refine blk_alloc ?_ _)); exact BK291.out), (by (with_reducible repeat (first | refine blk_drew ?_ | refine blk_alloc ?_ _)); exact BK292.out), (by repeat (first | (with_reducible first | exact HB.out | apply below_alloc | apply below_drew1 | refine below_set ?_ GE283.out | refine below_set ?_ GE290.out | refine below_set ?_ GE291.out | refine below_set ?_ GE292.out | refine below_set ?_ GE297.out) | exact HB.out)), z_NB298_297, z_NB297_298, fun _ _ => (by (with_reducible repeat (first | refine blk_drew ?_ | refine blk_alloc ?_ _)); exact BK297.out), fun _ => GW297.out, fun _ => GE297.out, fun _ => NB283_297.out, fun _ => NB297_283.out, fun _ => NB290_297.out, fun _ => NB297_290.out, fun _ => NB291_297.out, fun _ => NB297_291.out, fun _ => NB292_297.out, fun _ => NB297_292.out, z_BK298, Q_GW298, Q_GE298, Q_NB283_298, Q_NB298_283, Q_NB290_298, Q_NB298_290, Q_NB291_298, Q_NB298_291, Q_NB292_298, Q_NB298_292, fun h0_ => absurd ((hoff 8 (by kernel_rfl)).symm.trans h0_) (by decide), fun h0_ => absurd ((hoff 9 (by kernel_rfl)).symm.trans h0_) (by decide), fun _ => rfl, Q_X7_⟩
    refine steps_cons ?_ ?_
    · rintro b a w' ⟨gb297, gb298, m6_, m7_, ha, Q_BK283, Q_BK290, Q_BK291, Q_BK292, Q_HB, Q_NB298_297, Q_NB297_298, Q_BK297, Q_GW297, Q_GE297, Q_NB283_297, Q_NB297_283, Q_NB290_297, Q_NB297_290, Q_NB291_297, Q_NB297_291, Q_NB292_297, Q_NB297_292, Q_BK298, Q_GW298, Q_GE298, Q_NB283_298, Q_NB298_283, Q_NB290_298, Q_NB298_290, Q_NB291_298, Q_NB298_291, Q_NB292_298, Q_NB298_292, Q_BK297_e8, Q_BK298_e9, Q_X6_, Q_X7_⟩ hb_ hon hoff
      refine ⟨_, rfl, fun K hK => ?_⟩
      replace ha := Aside0.mk ha
      have BK283 := Aside0.mk Q_BK283
      have BK290 := Aside0.mk Q_BK290
      have BK291 := Aside0.mk Q_BK291
      have BK292 := Aside0.mk Q_BK292
      have HB := Aside0.mk Q_HB
      refine box_step ?hg (N := 15) ?hd (cs := #[.int .i64 0, .int .i64 0]) (t := 25) ?hr ?_; (case hd => rfl); (case hg => rfl); (case hr => first | (go_simp; done) | (go_simp; rfl))
      intro gb298 hg w28 hbox hb
      have n0_ := Aside0.mk (blk_below (g := gb283) (o := .cells #[.int .u8 a3_0, .int .u8 a3_1, .int .u8 a3_2] 42 (0, 0)) BK283.out hb)
      have n1_ := Aside0.mk (blk_below (g := gb290) (o := .cells #[.int .i64 t284, .int .i64 t285] 25 (0, 0)) BK290.out hb)
      have n2_ := Aside0.mk (blk_below (g := gb291) (o := .cells #[.int .i64 t286, .int .i64 t287] 25 (0, 0)) BK291.out hb)
      have n3_ := Aside0.mk (blk_below (g := gb292) (o := .cells #[.int .i64 t288, .int .i64 t289] 25 (0, 0)) BK292.out hb)
      have n4_ := Aside0.mk (below_step (by repeat (first | (with_reducible first | exact HB.out | apply below_alloc | apply below_drew1 | refine below_set ?_ GE283.out | refine below_set ?_ GE290.out | refine below_set ?_ GE291.out | refine below_set ?_ GE292.out) | exact HB.out)) hb)
      have n5_ := Aside0.mk (hbox)
      have n6_ := Aside0.mk ((by rw [hg]; exact (below_size (by repeat (first | (with_reducible first | exact HB.out | apply below_alloc | apply below_drew1 | refine below_set ?_ GE283.out | refine below_set ?_ GE290.out | refine below_set ?_ GE291.out | refine below_set ?_ GE292.out) | exact HB.out))) : w.heap.size ≤ gb298))
      have n7_ := Aside0.mk ((by rw [hg]; exact (below_size (by repeat (first | (with_reducible first | exact HB.out | apply below_alloc | apply below_drew1 | refine below_set ?_ GE283.out | refine below_set ?_ GE290.out | refine below_set ?_ GE291.out | refine below_set ?_ GE292.out) | exact HB.out))) : w.heap.size ≤ gb298))
      have n8_ := Aside0.mk ((by rw [hg]; exact Nat.ne_of_lt (blk_lt (g := gb283) (o := .cells #[.int .u8 a3_0, .int .u8 a3_1, .int .u8 a3_2] 42 (0, 0)) BK283.out) : gb283 ≠ gb298))
      have n9_ := Aside0.mk ((by rw [hg]; exact Nat.ne_of_gt (blk_lt (g := gb283) (o := .cells #[.int .u8 a3_0, .int .u8 a3_1, .int .u8 a3_2] 42 (0, 0)) BK283.out) : gb298 ≠ gb283))
      have n10_ := Aside0.mk ((by rw [hg]; exact Nat.ne_of_lt (blk_lt (g := gb290) (o := .cells #[.int .i64 t284, .int .i64 t285] 25 (0, 0)) BK290.out) : gb290 ≠ gb298))
      have n11_ := Aside0.mk ((by rw [hg]; exact Nat.ne_of_gt (blk_lt (g := gb290) (o := .cells #[.int .i64 t284, .int .i64 t285] 25 (0, 0)) BK290.out) : gb298 ≠ gb290))
      have n12_ := Aside0.mk ((by rw [hg]; exact Nat.ne_of_lt (blk_lt (g := gb291) (o := .cells #[.int .i64 t286, .int .i64 t287] 25 (0, 0)) BK291.out) : gb291 ≠ gb298))
      have n13_ := Aside0.mk ((by rw [hg]; exact Nat.ne_of_gt (blk_lt (g := gb291) (o := .cells #[.int .i64 t286, .int .i64 t287] 25 (0, 0)) BK291.out) : gb298 ≠ gb291))
      have n14_ := Aside0.mk ((by rw [hg]; exact Nat.ne_of_lt (blk_lt (g := gb292) (o := .cells #[.int .i64 t288, .int .i64 t289] 25 (0, 0)) BK292.out) : gb292 ≠ gb298))
      have n15_ := Aside0.mk ((by rw [hg]; exact Nat.ne_of_gt (blk_lt (g := gb292) (o := .cells #[.int .i64 t288, .int .i64 t289] 25 (0, 0)) BK292.out) : gb298 ≠ gb292))
      have z_NB298_297 := fun (h0_ : up b 7 6 = true) (h1_ : up b 7 7 = true) => (show gb298 ≠ gb297 from ((by rw [hg]; exact Nat.ne_of_gt (blk_lt (g := gb297) (o := .cells #[.int .i64 0, .int .i64 0] 25 (0, 0)) (by (with_reducible repeat (first | refine blk_drew ?_ | refine blk_alloc ?_ _)); exact (Q_BK297 h0_ (hoff 8 (by kernel_rfl))))) : gb298 ≠ gb297)))
      have z_NB297_298 := fun (h0_ : up b 7 6 = true) (h1_ : up b 7 7 = true) => (show gb297 ≠ gb298 from ((by rw [hg]; exact Nat.ne_of_lt (blk_lt (g := gb297) (o := .cells #[.int .i64 0, .int .i64 0] 25 (0, 0)) (by (with_reducible repeat (first | refine blk_drew ?_ | refine blk_alloc ?_ _)); exact (Q_BK297 h0_ (hoff 8 (by kernel_rfl))))) : gb297 ≠ gb298)))
      have z_BK297 := fun (h0_ : b 6 = true) (h1_ : b 8 = false) => (show w28.heap[gb297]? = some (.cells #[.int .i64 0, .int .i64 0] 25 (0, 0)) from by first | exact (blk_below (g := gb297) (o := .cells #[.int .i64 0, .int .i64 0] 25 (0, 0)) (by (with_reducible repeat (first | refine blk_drew ?_ | refine blk_alloc ?_ _)); exact (Q_BK297 h0_ h1_)) hb))
      clear BK283
      clear BK290
      clear BK291
      clear BK292
      clear HB
      have BK283 := n0_
      have BK290 := n1_
      have BK291 := n2_
      have BK292 := n3_
      have HB := n4_
      have BK298 := n5_
      have GW298 := n6_
      have GE298 := n7_
      have NB283_298 := n8_
      have NB298_283 := n9_
      have NB290_298 := n10_
      have NB298_290 := n11_
      have NB291_298 := n12_
      have NB298_291 := n13_
      have NB292_298 := n14_
      have NB298_292 := n15_
      clear n0_ n1_ n2_ n3_ n4_ n5_ n6_ n7_ n8_ n9_ n10_ n11_ n12_ n13_ n14_ n15_
      clear hb hbox hg
      refine hK.out _ _ ⟨gb297, gb298, m6_, (.pointer (some ⟨gb298, 0, none⟩)), (by rw [ha.out]; exact putSel_upk 7 hb_ rfl rfl rfl), (by (with_reducible repeat (first | refine blk_drew ?_ | refine blk_alloc ?_ _)); exact BK283.out), (by (with_reducible repeat (first | refine blk_drew ?_ | refine blk_alloc ?_ _)); exact BK290.out), (by (with_reducible repeat (first | refine blk_drew ?_ | refine blk_alloc ?_ _)); exact BK291.out), (by (with_reducible repeat (first | refine blk_drew ?_ | refine blk_alloc ?_ _)); exact BK292.out), (by repeat (first | (with_reducible first | exact HB.out | apply below_alloc | apply below_drew1 | refine below_set ?_ GE283.out | refine below_set ?_ GE290.out | refine below_set ?_ GE291.out | refine below_set ?_ GE292.out | refine below_set ?_ GE298.out) | exact HB.out)), z_NB298_297, z_NB297_298, z_BK297, Q_GW297, Q_GE297, Q_NB283_297, Q_NB297_283, Q_NB290_297, Q_NB297_290, Q_NB291_297, Q_NB297_291, Q_NB292_297, Q_NB297_292, fun _ _ => (by (with_reducible repeat (first | refine blk_drew ?_ | refine blk_alloc ?_ _)); exact BK298.out), fun _ => GW298.out, fun _ => GE298.out, fun _ => NB283_298.out, fun _ => NB298_283.out, fun _ => NB290_298.out, fun _ => NB298_290.out, fun _ => NB291_298.out, fun _ => NB298_291.out, fun _ => NB292_298.out, fun _ => NB298_292.out, fun h0_ => absurd ((hoff 8 (by kernel_rfl)).symm.trans h0_) (by decide), fun h0_ => absurd ((hoff 9 (by kernel_rfl)).symm.trans h0_) (by decide), Q_X6_, fun _ => rfl⟩
    refine steps_cons ?_ ?_
    · rintro b a w' ⟨gb297, gb298, m6_, m7_, ha, Q_BK283, Q_BK290, Q_BK291, Q_BK292, Q_HB, Q_NB298_297, Q_NB297_298, Q_BK297, Q_GW297, Q_GE297, Q_NB283_297, Q_NB297_283, Q_NB290_297, Q_NB297_290, Q_NB291_297, Q_NB297_291, Q_NB292_297, Q_NB297_292, Q_BK298, Q_GW298, Q_GE298, Q_NB283_298, Q_NB298_283, Q_NB290_298, Q_NB298_290, Q_NB291_298, Q_NB298_291, Q_NB292_298, Q_NB298_292, Q_BK297_e8, Q_BK298_e9, Q_X6_, Q_X7_⟩ hb_ hon hoff
      refine ⟨_, rfl, fun K hK => ?_⟩
      have e14 : a.tmps[14]? = some (m6_) := by rw [ha]; exact putSel_on (e := (6, 14, m6_)) 6 rfl rfl (hon 6 (by kernel_rfl)) rfl
      rw [Q_X6_ (hon 6 (by kernel_rfl))] at e14
      have e31 : a.tmps[31]? = some (.agg #[.int .i64 t293, .int .i64 t294]) := by rw [ha]; exact putSel_on (e := (2, 31, .agg #[.int .i64 t293, .int .i64 t294])) 2 rfl rfl (hon 2 (by kernel_rfl)) rfl
      replace ha := Aside0.mk ha
      have BK283 := Aside0.mk Q_BK283
      have BK290 := Aside0.mk Q_BK290
      have BK291 := Aside0.mk Q_BK291
      have BK292 := Aside0.mk Q_BK292
      have HB := Aside0.mk Q_HB
      have NB298_297 := Aside0.mk (Q_NB298_297 (hon 6 (by kernel_rfl)) (hon 7 (by kernel_rfl)))
      have NB297_298 := Aside0.mk (Q_NB297_298 (hon 6 (by kernel_rfl)) (hon 7 (by kernel_rfl)))
      have BK297 := Aside0.mk (Q_BK297 (hon 6 (by kernel_rfl)) hb_)
      have GW297 := Aside0.mk (Q_GW297 (hon 6 (by kernel_rfl)))
      have GE297 := Aside0.mk (Q_GE297 (hon 6 (by kernel_rfl)))
      have NB283_297 := Aside0.mk (Q_NB283_297 (hon 6 (by kernel_rfl)))
      have NB297_283 := Aside0.mk (Q_NB297_283 (hon 6 (by kernel_rfl)))
      have NB290_297 := Aside0.mk (Q_NB290_297 (hon 6 (by kernel_rfl)))
      have NB297_290 := Aside0.mk (Q_NB297_290 (hon 6 (by kernel_rfl)))
      have NB291_297 := Aside0.mk (Q_NB291_297 (hon 6 (by kernel_rfl)))
      have NB297_291 := Aside0.mk (Q_NB297_291 (hon 6 (by kernel_rfl)))
      have NB292_297 := Aside0.mk (Q_NB292_297 (hon 6 (by kernel_rfl)))
      have NB297_292 := Aside0.mk (Q_NB297_292 (hon 6 (by kernel_rfl)))
      have BK298 := Aside0.mk (Q_BK298 (hon 7 (by kernel_rfl)) (hoff 9 (by kernel_rfl)))
      have GW298 := Aside0.mk (Q_GW298 (hon 7 (by kernel_rfl)))
      have GE298 := Aside0.mk (Q_GE298 (hon 7 (by kernel_rfl)))
      have NB283_298 := Aside0.mk (Q_NB283_298 (hon 7 (by kernel_rfl)))
      have NB298_283 := Aside0.mk (Q_NB298_283 (hon 7 (by kernel_rfl)))
      have NB290_298 := Aside0.mk (Q_NB290_298 (hon 7 (by kernel_rfl)))
      have NB298_290 := Aside0.mk (Q_NB298_290 (hon 7 (by kernel_rfl)))
      have NB291_298 := Aside0.mk (Q_NB291_298 (hon 7 (by kernel_rfl)))
      have NB298_291 := Aside0.mk (Q_NB298_291 (hon 7 (by kernel_rfl)))
      have NB292_298 := Aside0.mk (Q_NB292_298 (hon 7 (by kernel_rfl)))
      have NB298_292 := Aside0.mk (Q_NB298_292 (hon 7 (by kernel_rfl)))
      have hs33 : w'.cell? ⟨gb297, 0, none⟩ = some (.int .i64 0) := (blk_cell BK297.out 0).trans rfl
      have hfs33 := blk_frozen BK297.out 0
      have hns33_0 := NB283_297.out
      have hns33_1 := NB290_297.out
      have hns33_2 := NB291_297.out
      have hns33_3 := NB292_297.out
      have hns33_5 := NB298_297.out
      have hms33_0 := NB297_283.out
      have hms33_1 := NB297_290.out
      have hms33_2 := NB297_291.out
      have hms33_3 := NB297_292.out
      have hms33_5 := NB297_298.out
      have hs34 : w'.cell? ⟨gb297, 1, none⟩ = some (.int .i64 0) := (blk_cell BK297.out 1).trans rfl
      have hfs34 := blk_frozen BK297.out 1
      have hns34_0 := NB283_297.out
      have hns34_1 := NB290_297.out
      have hns34_2 := NB291_297.out
      have hns34_3 := NB292_297.out
      have hns34_5 := NB298_297.out
      have hms34_0 := NB297_283.out
      have hms34_1 := NB297_290.out
      have hms34_2 := NB297_291.out
      have hms34_3 := NB297_292.out
      have hms34_5 := NB297_298.out
      refine skip_ (w1 := ?_) (by rfl) rfl ?_ ?_
      rotate_left
      · go_simp
        rfl
      refine hK.out _ _ ⟨gb297, gb298, m6_, m7_, (by rw [ha.out]; exact putSel_none (v := undef) rfl), (by (with_reducible repeat (first | refine blk_drew ?_ | refine blk_alloc ?_ _)); refine blk_far ?_ NB283_297.out _; (with_reducible repeat (first | refine blk_drew ?_ | refine blk_alloc ?_ _)); refine blk_far ?_ NB283_297.out _; (with_reducible repeat (first | refine blk_drew ?_ | refine blk_alloc ?_ _)); exact BK283.out), (by (with_reducible repeat (first | refine blk_drew ?_ | refine blk_alloc ?_ _)); refine blk_far ?_ NB290_297.out _; (with_reducible repeat (first | refine blk_drew ?_ | refine blk_alloc ?_ _)); refine blk_far ?_ NB290_297.out _; (with_reducible repeat (first | refine blk_drew ?_ | refine blk_alloc ?_ _)); exact BK290.out), (by (with_reducible repeat (first | refine blk_drew ?_ | refine blk_alloc ?_ _)); refine blk_far ?_ NB291_297.out _; (with_reducible repeat (first | refine blk_drew ?_ | refine blk_alloc ?_ _)); refine blk_far ?_ NB291_297.out _; (with_reducible repeat (first | refine blk_drew ?_ | refine blk_alloc ?_ _)); exact BK291.out), (by (with_reducible repeat (first | refine blk_drew ?_ | refine blk_alloc ?_ _)); refine blk_far ?_ NB292_297.out _; (with_reducible repeat (first | refine blk_drew ?_ | refine blk_alloc ?_ _)); refine blk_far ?_ NB292_297.out _; (with_reducible repeat (first | refine blk_drew ?_ | refine blk_alloc ?_ _)); exact BK292.out), (by repeat (first | (with_reducible first | exact HB.out | apply below_alloc | apply below_drew1 | refine below_set ?_ GE283.out | refine below_set ?_ GE290.out | refine below_set ?_ GE291.out | refine below_set ?_ GE292.out | refine below_set ?_ GE297.out | refine below_set ?_ GE298.out) | exact HB.out)), fun _ _ => NB298_297.out, fun _ _ => NB297_298.out, fun _ h1_ => absurd ((up_self b 8).symm.trans h1_) (by decide), fun _ => GW297.out, fun _ => GE297.out, fun _ => NB283_297.out, fun _ => NB297_283.out, fun _ => NB290_297.out, fun _ => NB297_290.out, fun _ => NB291_297.out, fun _ => NB297_291.out, fun _ => NB292_297.out, fun _ => NB297_292.out, fun _ _ => (by (with_reducible repeat (first | refine blk_drew ?_ | refine blk_alloc ?_ _)); refine blk_far ?_ NB298_297.out _; (with_reducible repeat (first | refine blk_drew ?_ | refine blk_alloc ?_ _)); refine blk_far ?_ NB298_297.out _; (with_reducible repeat (first | refine blk_drew ?_ | refine blk_alloc ?_ _)); exact BK298.out), fun _ => GW298.out, fun _ => GE298.out, fun _ => NB283_298.out, fun _ => NB298_283.out, fun _ => NB290_298.out, fun _ => NB298_290.out, fun _ => NB291_298.out, fun _ => NB298_291.out, fun _ => NB292_298.out, fun _ => NB298_292.out, fun _ => (by (with_reducible repeat (first | refine blk_drew ?_ | refine blk_alloc ?_ _)); refine blk_put (cs := #[.int .i64 t293, .int .i64 0]) ?_ 1 _ rfl; (with_reducible repeat (first | refine blk_drew ?_ | refine blk_alloc ?_ _)); refine blk_put (cs := #[.int .i64 0, .int .i64 0]) ?_ 0 _ rfl; (with_reducible repeat (first | refine blk_drew ?_ | refine blk_alloc ?_ _)); exact BK297.out), fun h0_ => absurd ((hoff 9 (by kernel_rfl)).symm.trans h0_) (by decide), Q_X6_, Q_X7_⟩
    refine steps_cons ?_ ?_
    · rintro b a w' ⟨gb297, gb298, m6_, m7_, ha, Q_BK283, Q_BK290, Q_BK291, Q_BK292, Q_HB, Q_NB298_297, Q_NB297_298, Q_BK297, Q_GW297, Q_GE297, Q_NB283_297, Q_NB297_283, Q_NB290_297, Q_NB297_290, Q_NB291_297, Q_NB297_291, Q_NB292_297, Q_NB297_292, Q_BK298, Q_GW298, Q_GE298, Q_NB283_298, Q_NB298_283, Q_NB290_298, Q_NB298_290, Q_NB291_298, Q_NB298_291, Q_NB292_298, Q_NB298_292, Q_BK297_e8, Q_BK298_e9, Q_X6_, Q_X7_⟩ hb_ hon hoff
      refine ⟨_, rfl, fun K hK => ?_⟩
      have e15 : a.tmps[15]? = some (m7_) := by rw [ha]; exact putSel_on (e := (7, 15, m7_)) 7 rfl rfl (hon 7 (by kernel_rfl)) rfl
      rw [Q_X7_ (hon 7 (by kernel_rfl))] at e15
      have e34 : a.tmps[34]? = some (.agg #[.int .i64 t295, .int .i64 t296]) := by rw [ha]; exact putSel_on (e := (5, 34, .agg #[.int .i64 t295, .int .i64 t296])) 5 rfl rfl (hon 5 (by kernel_rfl)) rfl
      replace ha := Aside0.mk ha
      have BK283 := Aside0.mk Q_BK283
      have BK290 := Aside0.mk Q_BK290
      have BK291 := Aside0.mk Q_BK291
      have BK292 := Aside0.mk Q_BK292
      have HB := Aside0.mk Q_HB
      have NB298_297 := Aside0.mk (Q_NB298_297 (hon 6 (by kernel_rfl)) (hon 7 (by kernel_rfl)))
      have NB297_298 := Aside0.mk (Q_NB297_298 (hon 6 (by kernel_rfl)) (hon 7 (by kernel_rfl)))
      have GW297 := Aside0.mk (Q_GW297 (hon 6 (by kernel_rfl)))
      have GE297 := Aside0.mk (Q_GE297 (hon 6 (by kernel_rfl)))
      have NB283_297 := Aside0.mk (Q_NB283_297 (hon 6 (by kernel_rfl)))
      have NB297_283 := Aside0.mk (Q_NB297_283 (hon 6 (by kernel_rfl)))
      have NB290_297 := Aside0.mk (Q_NB290_297 (hon 6 (by kernel_rfl)))
      have NB297_290 := Aside0.mk (Q_NB297_290 (hon 6 (by kernel_rfl)))
      have NB291_297 := Aside0.mk (Q_NB291_297 (hon 6 (by kernel_rfl)))
      have NB297_291 := Aside0.mk (Q_NB297_291 (hon 6 (by kernel_rfl)))
      have NB292_297 := Aside0.mk (Q_NB292_297 (hon 6 (by kernel_rfl)))
      have NB297_292 := Aside0.mk (Q_NB297_292 (hon 6 (by kernel_rfl)))
      have BK298 := Aside0.mk (Q_BK298 (hon 7 (by kernel_rfl)) hb_)
      have GW298 := Aside0.mk (Q_GW298 (hon 7 (by kernel_rfl)))
      have GE298 := Aside0.mk (Q_GE298 (hon 7 (by kernel_rfl)))
      have NB283_298 := Aside0.mk (Q_NB283_298 (hon 7 (by kernel_rfl)))
      have NB298_283 := Aside0.mk (Q_NB298_283 (hon 7 (by kernel_rfl)))
      have NB290_298 := Aside0.mk (Q_NB290_298 (hon 7 (by kernel_rfl)))
      have NB298_290 := Aside0.mk (Q_NB298_290 (hon 7 (by kernel_rfl)))
      have NB291_298 := Aside0.mk (Q_NB291_298 (hon 7 (by kernel_rfl)))
      have NB298_291 := Aside0.mk (Q_NB298_291 (hon 7 (by kernel_rfl)))
      have NB292_298 := Aside0.mk (Q_NB292_298 (hon 7 (by kernel_rfl)))
      have NB298_292 := Aside0.mk (Q_NB298_292 (hon 7 (by kernel_rfl)))
      have BK297 := Aside0.mk (Q_BK297_e8 (hon 8 (by kernel_rfl)))
      have hs35 : w'.cell? ⟨gb298, 0, none⟩ = some (.int .i64 0) := (blk_cell BK298.out 0).trans rfl
      have hfs35 := blk_frozen BK298.out 0
      have hns35_0 := NB283_298.out
      have hns35_1 := NB290_298.out
      have hns35_2 := NB291_298.out
      have hns35_3 := NB292_298.out
      have hns35_4 := NB297_298.out
      have hms35_0 := NB298_283.out
      have hms35_1 := NB298_290.out
      have hms35_2 := NB298_291.out
      have hms35_3 := NB298_292.out
      have hms35_4 := NB298_297.out
      have hs36 : w'.cell? ⟨gb298, 1, none⟩ = some (.int .i64 0) := (blk_cell BK298.out 1).trans rfl
      have hfs36 := blk_frozen BK298.out 1
      have hns36_0 := NB283_298.out
      have hns36_1 := NB290_298.out
      have hns36_2 := NB291_298.out
      have hns36_3 := NB292_298.out
      have hns36_4 := NB297_298.out
      have hms36_0 := NB298_283.out
      have hms36_1 := NB298_290.out
      have hms36_2 := NB298_291.out
      have hms36_3 := NB298_292.out
      have hms36_4 := NB298_297.out
      refine skip_ (w1 := ?_) (by rfl) rfl ?_ ?_
      rotate_left
      · go_simp
        rfl
      refine hK.out _ _ ⟨gb297, gb298, m6_, m7_, (by rw [ha.out]; exact putSel_none (v := undef) rfl), (by (with_reducible repeat (first | refine blk_drew ?_ | refine blk_alloc ?_ _)); refine blk_far ?_ NB283_298.out _; (with_reducible repeat (first | refine blk_drew ?_ | refine blk_alloc ?_ _)); refine blk_far ?_ NB283_298.out _; (with_reducible repeat (first | refine blk_drew ?_ | refine blk_alloc ?_ _)); exact BK283.out), (by (with_reducible repeat (first | refine blk_drew ?_ | refine blk_alloc ?_ _)); refine blk_far ?_ NB290_298.out _; (with_reducible repeat (first | refine blk_drew ?_ | refine blk_alloc ?_ _)); refine blk_far ?_ NB290_298.out _; (with_reducible repeat (first | refine blk_drew ?_ | refine blk_alloc ?_ _)); exact BK290.out), (by (with_reducible repeat (first | refine blk_drew ?_ | refine blk_alloc ?_ _)); refine blk_far ?_ NB291_298.out _; (with_reducible repeat (first | refine blk_drew ?_ | refine blk_alloc ?_ _)); refine blk_far ?_ NB291_298.out _; (with_reducible repeat (first | refine blk_drew ?_ | refine blk_alloc ?_ _)); exact BK291.out), (by (with_reducible repeat (first | refine blk_drew ?_ | refine blk_alloc ?_ _)); refine blk_far ?_ NB292_298.out _; (with_reducible repeat (first | refine blk_drew ?_ | refine blk_alloc ?_ _)); refine blk_far ?_ NB292_298.out _; (with_reducible repeat (first | refine blk_drew ?_ | refine blk_alloc ?_ _)); exact BK292.out), (by repeat (first | (with_reducible first | exact HB.out | apply below_alloc | apply below_drew1 | refine below_set ?_ GE283.out | refine below_set ?_ GE290.out | refine below_set ?_ GE291.out | refine below_set ?_ GE292.out | refine below_set ?_ GE297.out | refine below_set ?_ GE298.out) | exact HB.out)), fun _ _ => NB298_297.out, fun _ _ => NB297_298.out, fun _ h1_ => absurd ((hon 8 (by kernel_rfl)).symm.trans h1_) (by decide), fun _ => GW297.out, fun _ => GE297.out, fun _ => NB283_297.out, fun _ => NB297_283.out, fun _ => NB290_297.out, fun _ => NB297_290.out, fun _ => NB291_297.out, fun _ => NB297_291.out, fun _ => NB292_297.out, fun _ => NB297_292.out, fun _ h1_ => absurd ((up_self b 9).symm.trans h1_) (by decide), fun _ => GW298.out, fun _ => GE298.out, fun _ => NB283_298.out, fun _ => NB298_283.out, fun _ => NB290_298.out, fun _ => NB298_290.out, fun _ => NB291_298.out, fun _ => NB298_291.out, fun _ => NB292_298.out, fun _ => NB298_292.out, fun _ => (by (with_reducible repeat (first | refine blk_drew ?_ | refine blk_alloc ?_ _)); refine blk_far ?_ NB297_298.out _; (with_reducible repeat (first | refine blk_drew ?_ | refine blk_alloc ?_ _)); refine blk_far ?_ NB297_298.out _; (with_reducible repeat (first | refine blk_drew ?_ | refine blk_alloc ?_ _)); exact BK297.out), fun _ => (by (with_reducible repeat (first | refine blk_drew ?_ | refine blk_alloc ?_ _)); refine blk_put (cs := #[.int .i64 t295, .int .i64 0]) ?_ 1 _ rfl; (with_reducible repeat (first | refine blk_drew ?_ | refine blk_alloc ?_ _)); refine blk_put (cs := #[.int .i64 0, .int .i64 0]) ?_ 0 _ rfl; (with_reducible repeat (first | refine blk_drew ?_ | refine blk_alloc ?_ _)); exact BK298.out), Q_X6_, Q_X7_⟩
    exact steps_nil
  rintro b a w36 hall ⟨gb297, gb298, m6_, m7_, ha, Q_BK283, Q_BK290, Q_BK291, Q_BK292, Q_HB, Q_NB298_297, Q_NB297_298, Q_BK297, Q_GW297, Q_GE297, Q_NB283_297, Q_NB297_283, Q_NB290_297, Q_NB297_290, Q_NB291_297, Q_NB297_291, Q_NB292_297, Q_NB297_292, Q_BK298, Q_GW298, Q_GE298, Q_NB283_298, Q_NB298_283, Q_NB290_298, Q_NB298_290, Q_NB291_298, Q_NB298_291, Q_NB292_298, Q_NB298_292, Q_BK297_e8, Q_BK298_e9, Q_X6_, Q_X7_⟩
  clear BK283 BK290 BK291 BK292 HB
  have hb0_ := hall 0 (by kernel_rfl)
  have hb1_ := hall 1 (by kernel_rfl)
  have hb2_ := hall 2 (by kernel_rfl)
  have hb3_ := hall 3 (by kernel_rfl)
  have hb4_ := hall 4 (by kernel_rfl)
  have hb5_ := hall 5 (by kernel_rfl)
  have hb6_ := hall 6 (by kernel_rfl)
  have hb7_ := hall 7 (by kernel_rfl)
  have hb8_ := hall 8 (by kernel_rfl)
  have hb9_ := hall 9 (by kernel_rfl)
  subst ha
  obtain rfl := Q_X6_ hb6_
  obtain rfl := Q_X7_ hb7_
  simp only [putSel, hb0_, hb1_, hb2_, hb3_, hb4_, hb5_, hb6_, hb7_, hb8_, hb9_, if_true, Act.put, sA, sB, sC]
  have BK283 := Aside0.mk Q_BK283
  clear Q_BK283
  have BK290 := Aside0.mk Q_BK290
  clear Q_BK290
  have BK291 := Aside0.mk Q_BK291
  clear Q_BK291
  have BK292 := Aside0.mk Q_BK292
  clear Q_BK292
  have HB := Aside0.mk Q_HB
  clear Q_HB
  have NB298_297 := Aside0.mk (Q_NB298_297 hb6_ hb7_)
  clear Q_NB298_297
  have NB297_298 := Aside0.mk (Q_NB297_298 hb6_ hb7_)
  clear Q_NB297_298
  clear Q_BK297
  have GW297 := Aside0.mk (Q_GW297 hb6_)
  clear Q_GW297
  have GE297 := Aside0.mk (Q_GE297 hb6_)
  clear Q_GE297
  have NB283_297 := Aside0.mk (Q_NB283_297 hb6_)
  clear Q_NB283_297
  have NB297_283 := Aside0.mk (Q_NB297_283 hb6_)
  clear Q_NB297_283
  have NB290_297 := Aside0.mk (Q_NB290_297 hb6_)
  clear Q_NB290_297
  have NB297_290 := Aside0.mk (Q_NB297_290 hb6_)
  clear Q_NB297_290
  have NB291_297 := Aside0.mk (Q_NB291_297 hb6_)
  clear Q_NB291_297
  have NB297_291 := Aside0.mk (Q_NB297_291 hb6_)
  clear Q_NB297_291
  have NB292_297 := Aside0.mk (Q_NB292_297 hb6_)
  clear Q_NB292_297
  have NB297_292 := Aside0.mk (Q_NB297_292 hb6_)
  clear Q_NB297_292
  clear Q_BK298
  have GW298 := Aside0.mk (Q_GW298 hb7_)
  clear Q_GW298
  have GE298 := Aside0.mk (Q_GE298 hb7_)
  clear Q_GE298
  have NB283_298 := Aside0.mk (Q_NB283_298 hb7_)
  clear Q_NB283_298
  have NB298_283 := Aside0.mk (Q_NB298_283 hb7_)
  clear Q_NB298_283
  have NB290_298 := Aside0.mk (Q_NB290_298 hb7_)
  clear Q_NB290_298
  have NB298_290 := Aside0.mk (Q_NB298_290 hb7_)
  clear Q_NB298_290
  have NB291_298 := Aside0.mk (Q_NB291_298 hb7_)
  clear Q_NB291_298
  have NB298_291 := Aside0.mk (Q_NB298_291 hb7_)
  clear Q_NB298_291
  have NB292_298 := Aside0.mk (Q_NB292_298 hb7_)
  clear Q_NB292_298
  have NB298_292 := Aside0.mk (Q_NB298_292 hb7_)
  clear Q_NB298_292
  have BK297 := Aside0.mk (Q_BK297_e8 hb8_)
  clear Q_BK297_e8
  have BK298 := Aside0.mk (Q_BK298_e9 hb9_)
  clear Q_BK298_e9
  clear hall hb0_ hb1_ hb2_ hb3_ hb4_ hb5_ hb6_ hb7_ hb8_ hb9_
  go_upto_region 3 with (fail)
  go_cut [72] (fun v72 wc => ∃ (kq : Nat) (x72_10 : Bool), v72 = .bool x72_10 ∧ Aside0 (timeboundlaw08_CongruenceLattice.j0 kq a4 x72_10 t284 t285 t286 t287 t293 t294 t295 t296 = some r) ∧ Aside0 (kq ≤ k) ∧ Aside0 (wc.heap[gb283]? = some (.cells #[.int .u8 a3_0, .int .u8 a3_1, .int .u8 a3_2] 42 (0, 0))) ∧ Aside0 (wc.heap[gb290]? = some (.cells #[.int .i64 t284, .int .i64 t285] 25 (0, 0))) ∧ Aside0 (wc.heap[gb291]? = some (.cells #[.int .i64 t286, .int .i64 t287] 25 (0, 0))) ∧ Aside0 (wc.heap[gb292]? = some (.cells #[.int .i64 t288, .int .i64 t289] 25 (0, 0))) ∧ Aside0 (wc.heap[gb297]? = some (.cells #[.int .i64 t293, .int .i64 t294] 25 (0, 0))) ∧ Aside0 (wc.heap[gb298]? = some (.cells #[.int .i64 t295, .int .i64 t296] 25 (0, 0))) ∧ Aside0 (Below w.heap.size w wc))
  case first =>
    have H := HC11.out
    clear HC11
    replace H := Option.bind_eq_some_iff.mp H
    obtain ⟨t299, A370, H⟩ := H
    replace H : (if t299 = true then ((congruence_Leq.f k t286 t287 t293 t294).bind fun t300 => (if t300 = true then ((congruence_Leq.f k t295 t296 t284 t285).bind fun t301 => (if t301 = true then ((congruence_Leq.f k t295 t296 t286 t287).bind fun t302 => (if t302 = true then ((congruence_Leq.f k t284 t285 t288 t289).bind fun t303 => (if t303 = true then ((congruence_Leq.f k t286 t287 t288 t289).bind fun t304 => (if t304 = true then ((congruence_Leq.f k t293 t294 t288 t289).bind fun t305 => (timeboundlaw08_CongruenceLattice.j0 k a4 (!t305) t284 t285 t286 t287 t293 t294 t295 t296)) else (timeboundlaw08_CongruenceLattice.j0 k a4 false t284 t285 t286 t287 t293 t294 t295 t296))) else (timeboundlaw08_CongruenceLattice.j0 k a4 false t284 t285 t286 t287 t293 t294 t295 t296))) else (none))) else (none))) else (none))) else (none)) = some r := H
    have A37 := Aside0.mk A370
    clear A370
    by_cases c38 : t299 = true
    · subst c38
      have H1 : ((congruence_Leq.f k t286 t287 t293 t294).bind fun t300 => (if t300 = true then ((congruence_Leq.f k t295 t296 t284 t285).bind fun t301 => (if t301 = true then ((congruence_Leq.f k t295 t296 t286 t287).bind fun t302 => (if t302 = true then ((congruence_Leq.f k t284 t285 t288 t289).bind fun t303 => (if t303 = true then ((congruence_Leq.f k t286 t287 t288 t289).bind fun t304 => (if t304 = true then ((congruence_Leq.f k t293 t294 t288 t289).bind fun t305 => (timeboundlaw08_CongruenceLattice.j0 k a4 (!t305) t284 t285 t286 t287 t293 t294 t295 t296)) else (timeboundlaw08_CongruenceLattice.j0 k a4 false t284 t285 t286 t287 t293 t294 t295 t296))) else (timeboundlaw08_CongruenceLattice.j0 k a4 false t284 t285 t286 t287 t293 t294 t295 t296))) else (none))) else (none))) else (none))) = some r := by rw [if_pos rfl] at H; exact H
      clear H
      have H := H1
      clear H1
      replace H := Option.bind_eq_some_iff.mp H
      obtain ⟨t300, A390, H⟩ := H
      replace H : (if t300 = true then ((congruence_Leq.f k t295 t296 t284 t285).bind fun t301 => (if t301 = true then ((congruence_Leq.f k t295 t296 t286 t287).bind fun t302 => (if t302 = true then ((congruence_Leq.f k t284 t285 t288 t289).bind fun t303 => (if t303 = true then ((congruence_Leq.f k t286 t287 t288 t289).bind fun t304 => (if t304 = true then ((congruence_Leq.f k t293 t294 t288 t289).bind fun t305 => (timeboundlaw08_CongruenceLattice.j0 k a4 (!t305) t284 t285 t286 t287 t293 t294 t295 t296)) else (timeboundlaw08_CongruenceLattice.j0 k a4 false t284 t285 t286 t287 t293 t294 t295 t296))) else (timeboundlaw08_CongruenceLattice.j0 k a4 false t284 t285 t286 t287 t293 t294 t295 t296))) else (none))) else (none))) else (none)) = some r := H
      have A39 := Aside0.mk A390
      clear A390
      by_cases c40 : t300 = true
      · subst c40
        have H1 : ((congruence_Leq.f k t295 t296 t284 t285).bind fun t301 => (if t301 = true then ((congruence_Leq.f k t295 t296 t286 t287).bind fun t302 => (if t302 = true then ((congruence_Leq.f k t284 t285 t288 t289).bind fun t303 => (if t303 = true then ((congruence_Leq.f k t286 t287 t288 t289).bind fun t304 => (if t304 = true then ((congruence_Leq.f k t293 t294 t288 t289).bind fun t305 => (timeboundlaw08_CongruenceLattice.j0 k a4 (!t305) t284 t285 t286 t287 t293 t294 t295 t296)) else (timeboundlaw08_CongruenceLattice.j0 k a4 false t284 t285 t286 t287 t293 t294 t295 t296))) else (timeboundlaw08_CongruenceLattice.j0 k a4 false t284 t285 t286 t287 t293 t294 t295 t296))) else (none))) else (none))) = some r := by rw [if_pos rfl] at H; exact H
        clear H
        have H := H1
        clear H1
        replace H := Option.bind_eq_some_iff.mp H
        obtain ⟨t301, A410, H⟩ := H
        replace H : (if t301 = true then ((congruence_Leq.f k t295 t296 t286 t287).bind fun t302 => (if t302 = true then ((congruence_Leq.f k t284 t285 t288 t289).bind fun t303 => (if t303 = true then ((congruence_Leq.f k t286 t287 t288 t289).bind fun t304 => (if t304 = true then ((congruence_Leq.f k t293 t294 t288 t289).bind fun t305 => (timeboundlaw08_CongruenceLattice.j0 k a4 (!t305) t284 t285 t286 t287 t293 t294 t295 t296)) else (timeboundlaw08_CongruenceLattice.j0 k a4 false t284 t285 t286 t287 t293 t294 t295 t296))) else (timeboundlaw08_CongruenceLattice.j0 k a4 false t284 t285 t286 t287 t293 t294 t295 t296))) else (none))) else (none)) = some r := H
        have A41 := Aside0.mk A410
        clear A410
        by_cases c42 : t301 = true
        · subst c42
          have H1 : ((congruence_Leq.f k t295 t296 t286 t287).bind fun t302 => (if t302 = true then ((congruence_Leq.f k t284 t285 t288 t289).bind fun t303 => (if t303 = true then ((congruence_Leq.f k t286 t287 t288 t289).bind fun t304 => (if t304 = true then ((congruence_Leq.f k t293 t294 t288 t289).bind fun t305 => (timeboundlaw08_CongruenceLattice.j0 k a4 (!t305) t284 t285 t286 t287 t293 t294 t295 t296)) else (timeboundlaw08_CongruenceLattice.j0 k a4 false t284 t285 t286 t287 t293 t294 t295 t296))) else (timeboundlaw08_CongruenceLattice.j0 k a4 false t284 t285 t286 t287 t293 t294 t295 t296))) else (none))) = some r := by rw [if_pos rfl] at H; exact H
          clear H
          have H := H1
          clear H1
          replace H := Option.bind_eq_some_iff.mp H
          obtain ⟨t302, A430, H⟩ := H
          replace H : (if t302 = true then ((congruence_Leq.f k t284 t285 t288 t289).bind fun t303 => (if t303 = true then ((congruence_Leq.f k t286 t287 t288 t289).bind fun t304 => (if t304 = true then ((congruence_Leq.f k t293 t294 t288 t289).bind fun t305 => (timeboundlaw08_CongruenceLattice.j0 k a4 (!t305) t284 t285 t286 t287 t293 t294 t295 t296)) else (timeboundlaw08_CongruenceLattice.j0 k a4 false t284 t285 t286 t287 t293 t294 t295 t296))) else (timeboundlaw08_CongruenceLattice.j0 k a4 false t284 t285 t286 t287 t293 t294 t295 t296))) else (none)) = some r := H
          have A43 := Aside0.mk A430
          clear A430
          by_cases c44 : t302 = true
          · subst c44
            have H1 : ((congruence_Leq.f k t284 t285 t288 t289).bind fun t303 => (if t303 = true then ((congruence_Leq.f k t286 t287 t288 t289).bind fun t304 => (if t304 = true then ((congruence_Leq.f k t293 t294 t288 t289).bind fun t305 => (timeboundlaw08_CongruenceLattice.j0 k a4 (!t305) t284 t285 t286 t287 t293 t294 t295 t296)) else (timeboundlaw08_CongruenceLattice.j0 k a4 false t284 t285 t286 t287 t293 t294 t295 t296))) else (timeboundlaw08_CongruenceLattice.j0 k a4 false t284 t285 t286 t287 t293 t294 t295 t296))) = some r := by rw [if_pos rfl] at H; exact H
            clear H
            have H := H1
            clear H1
            replace H := Option.bind_eq_some_iff.mp H
            obtain ⟨t303, A450, H⟩ := H
            replace H : (if t303 = true then ((congruence_Leq.f k t286 t287 t288 t289).bind fun t304 => (if t304 = true then ((congruence_Leq.f k t293 t294 t288 t289).bind fun t305 => (timeboundlaw08_CongruenceLattice.j0 k a4 (!t305) t284 t285 t286 t287 t293 t294 t295 t296)) else (timeboundlaw08_CongruenceLattice.j0 k a4 false t284 t285 t286 t287 t293 t294 t295 t296))) else (timeboundlaw08_CongruenceLattice.j0 k a4 false t284 t285 t286 t287 t293 t294 t295 t296)) = some r := H
            have A45 := Aside0.mk A450
            clear A450
            by_cases c46 : t303 = true
            · subst c46
              have H1 : ((congruence_Leq.f k t286 t287 t288 t289).bind fun t304 => (if t304 = true then ((congruence_Leq.f k t293 t294 t288 t289).bind fun t305 => (timeboundlaw08_CongruenceLattice.j0 k a4 (!t305) t284 t285 t286 t287 t293 t294 t295 t296)) else (timeboundlaw08_CongruenceLattice.j0 k a4 false t284 t285 t286 t287 t293 t294 t295 t296))) = some r := by rw [if_pos rfl] at H; exact H
              clear H
              have H := H1
              clear H1
              replace H := Option.bind_eq_some_iff.mp H
              obtain ⟨t304, A470, H⟩ := H
              replace H : (if t304 = true then ((congruence_Leq.f k t293 t294 t288 t289).bind fun t305 => (timeboundlaw08_CongruenceLattice.j0 k a4 (!t305) t284 t285 t286 t287 t293 t294 t295 t296)) else (timeboundlaw08_CongruenceLattice.j0 k a4 false t284 t285 t286 t287 t293 t294 t295 t296)) = some r := H
              have A47 := Aside0.mk A470
              clear A470
              by_cases c48 : t304 = true
              · subst c48
                have H1 : ((congruence_Leq.f k t293 t294 t288 t289).bind fun t305 => (timeboundlaw08_CongruenceLattice.j0 k a4 (!t305) t284 t285 t286 t287 t293 t294 t295 t296)) = some r := by rw [if_pos rfl] at H; exact H
                clear H
                have H := H1
                clear H1
                replace H := Option.bind_eq_some_iff.mp H
                obtain ⟨t305, A490, H⟩ := H
                replace H : (timeboundlaw08_CongruenceLattice.j0 k a4 (!t305) t284 t285 t286 t287 t293 t294 t295 t296) = some r := H
                have A49 := Aside0.mk A490
                clear A490
                have H' := Aside0.mk H
                clear H
                have hnb50 := NB290_283.out
                have hnc50 := NB283_290.out
                have hnb51 := NB290_291.out
                have hnc51 := NB291_290.out
                have hnb52 := NB290_292.out
                have hnc52 := NB292_290.out
                have hnb53 := NB290_297.out
                have hnc53 := NB297_290.out
                have hnb54 := NB290_298.out
                have hnc54 := NB298_290.out
                have hcz55_0 : w36.cell? ⟨gb290, 0, none⟩ = some (.int .i64 t284) := (blk_cell BK290.out 0).trans rfl
                have hcz55_1 : w36.cell? ⟨gb290, 1, none⟩ = some (.int .i64 t285) := (blk_cell BK290.out 1).trans rfl
                have hfz55_0 := blk_frozen BK290.out 0
                have hfz55_1 := blk_frozen BK290.out 1
                have hnb56 := NB297_283.out
                have hnc56 := NB283_297.out
                have hnb57 := NB297_291.out
                have hnc57 := NB291_297.out
                have hnb58 := NB297_292.out
                have hnc58 := NB292_297.out
                have hnb59 := NB297_298.out
                have hnc59 := NB298_297.out
                have hcz60_0 : w36.cell? ⟨gb297, 0, none⟩ = some (.int .i64 t293) := (blk_cell BK297.out 0).trans rfl
                have hcz60_1 : w36.cell? ⟨gb297, 1, none⟩ = some (.int .i64 t294) := (blk_cell BK297.out 1).trans rfl
                have hfz60_0 := blk_frozen BK297.out 0
                have hfz60_1 := blk_frozen BK297.out 1
                go_wp2_with (first | ((with_reducible refine gate_callee (f := 17) rfl ?_); refine goesL_ (some 37) rfl rfl Tryd.func17 (by kernel_rfl) rfl #[.agg #[.int .i64 t284, .int .i64 t285], .agg #[.int .i64 t293, .int .i64 t294]] rfl (by (try simp only [List.map_toArray, List.map_cons, List.map_nil]); first | done | rfl) ?_; (with_reducible refine (congruence_Leq.calls k t284 t285 t293 t294 true _ A37.out).mono ?_); rintro e w61 ⟨rfl, hb⟩; refine ⟨_, rfl, ?_⟩; have n0_ := Aside0.mk (blk_below (g := gb283) (o := .cells #[.int .u8 a3_0, .int .u8 a3_1, .int .u8 a3_2] 42 (0, 0)) (by (with_reducible repeat (first | refine blk_drew ?_ | refine blk_alloc ?_ _)); exact BK283.out) hb); have n1_ := Aside0.mk (blk_below (g := gb290) (o := .cells #[.int .i64 t284, .int .i64 t285] 25 (0, 0)) (by (with_reducible repeat (first | refine blk_drew ?_ | refine blk_alloc ?_ _)); exact BK290.out) hb); have n2_ := Aside0.mk (blk_below (g := gb291) (o := .cells #[.int .i64 t286, .int .i64 t287] 25 (0, 0)) (by (with_reducible repeat (first | refine blk_drew ?_ | refine blk_alloc ?_ _)); exact BK291.out) hb); have n3_ := Aside0.mk (blk_below (g := gb292) (o := .cells #[.int .i64 t288, .int .i64 t289] 25 (0, 0)) (by (with_reducible repeat (first | refine blk_drew ?_ | refine blk_alloc ?_ _)); exact BK292.out) hb); have n4_ := Aside0.mk (blk_below (g := gb297) (o := .cells #[.int .i64 t293, .int .i64 t294] 25 (0, 0)) (by (with_reducible repeat (first | refine blk_drew ?_ | refine blk_alloc ?_ _)); exact BK297.out) hb); have n5_ := Aside0.mk (blk_below (g := gb298) (o := .cells #[.int .i64 t295, .int .i64 t296] 25 (0, 0)) (by (with_reducible repeat (first | refine blk_drew ?_ | refine blk_alloc ?_ _)); exact BK298.out) hb); have n6_ := Aside0.mk (below_step (by repeat (first | (with_reducible first | exact HB.out | apply below_alloc | apply below_drew1 | refine below_set ?_ GE283.out | refine below_set ?_ GE290.out | refine below_set ?_ GE291.out | refine below_set ?_ GE292.out | refine below_set ?_ GE297.out | refine below_set ?_ GE298.out) | exact HB.out)) hb); clear BK283; clear BK290; clear BK291; clear BK292; clear BK297; clear BK298; clear HB; have BK283 := n0_; have BK290 := n1_; have BK291 := n2_; have BK292 := n3_; have BK297 := n4_; have BK298 := n5_; have HB := n6_; clear n0_ n1_ n2_ n3_ n4_ n5_ n6_; (try clear hb); (try clear hb2); (try clear hk); (try clear hi); have hnb62 := NB291_283.out; have hnc62 := NB283_291.out; have hnb63 := NB291_292.out; have hnc63 := NB292_291.out; have hnb64 := NB291_298.out; have hnc64 := NB298_291.out; have hcz65_0 : w61.cell? ⟨gb291, 0, none⟩ = some (.int .i64 t286) := (blk_cell BK291.out 0).trans rfl; have hcz65_1 : w61.cell? ⟨gb291, 1, none⟩ = some (.int .i64 t287) := (blk_cell BK291.out 1).trans rfl; have hfz65_0 := blk_frozen BK291.out 0; have hfz65_1 := blk_frozen BK291.out 1; have hcz66_0 : w61.cell? ⟨gb297, 0, none⟩ = some (.int .i64 t293) := (blk_cell BK297.out 0).trans rfl; have hcz66_1 : w61.cell? ⟨gb297, 1, none⟩ = some (.int .i64 t294) := (blk_cell BK297.out 1).trans rfl; have hfz66_0 := blk_frozen BK297.out 0; have hfz66_1 := blk_frozen BK297.out 1) | (go_at_call 17; (with_reducible refine (congruence_Leq.calls k t286 t287 t293 t294 true _ A39.out).mono ?_); rintro e w67 ⟨rfl, hb⟩; have n0_ := Aside0.mk (blk_below (g := gb283) (o := .cells #[.int .u8 a3_0, .int .u8 a3_1, .int .u8 a3_2] 42 (0, 0)) (by (with_reducible repeat (first | refine blk_drew ?_ | refine blk_alloc ?_ _)); exact BK283.out) hb); have n1_ := Aside0.mk (blk_below (g := gb290) (o := .cells #[.int .i64 t284, .int .i64 t285] 25 (0, 0)) (by (with_reducible repeat (first | refine blk_drew ?_ | refine blk_alloc ?_ _)); exact BK290.out) hb); have n2_ := Aside0.mk (blk_below (g := gb291) (o := .cells #[.int .i64 t286, .int .i64 t287] 25 (0, 0)) (by (with_reducible repeat (first | refine blk_drew ?_ | refine blk_alloc ?_ _)); exact BK291.out) hb); have n3_ := Aside0.mk (blk_below (g := gb292) (o := .cells #[.int .i64 t288, .int .i64 t289] 25 (0, 0)) (by (with_reducible repeat (first | refine blk_drew ?_ | refine blk_alloc ?_ _)); exact BK292.out) hb); have n4_ := Aside0.mk (blk_below (g := gb297) (o := .cells #[.int .i64 t293, .int .i64 t294] 25 (0, 0)) (by (with_reducible repeat (first | refine blk_drew ?_ | refine blk_alloc ?_ _)); exact BK297.out) hb); have n5_ := Aside0.mk (blk_below (g := gb298) (o := .cells #[.int .i64 t295, .int .i64 t296] 25 (0, 0)) (by (with_reducible repeat (first | refine blk_drew ?_ | refine blk_alloc ?_ _)); exact BK298.out) hb); have n6_ := Aside0.mk (below_step (by repeat (first | (with_reducible first | exact HB.out | apply below_alloc | apply below_drew1 | refine below_set ?_ GE283.out | refine below_set ?_ GE290.out | refine below_set ?_ GE291.out | refine below_set ?_ GE292.out | refine below_set ?_ GE297.out | refine below_set ?_ GE298.out) | exact HB.out)) hb); clear BK283; clear BK290; clear BK291; clear BK292; clear BK297; clear BK298; clear HB; have BK283 := n0_; have BK290 := n1_; have BK291 := n2_; have BK292 := n3_; have BK297 := n4_; have BK298 := n5_; have HB := n6_; clear n0_ n1_ n2_ n3_ n4_ n5_ n6_; (try clear hb); (try clear hb2); (try clear hk); (try clear hi); have hnb68 := NB298_283.out; have hnc68 := NB283_298.out; have hnb69 := NB298_292.out; have hnc69 := NB292_298.out; have hcz70_0 : w67.cell? ⟨gb298, 0, none⟩ = some (.int .i64 t295) := (blk_cell BK298.out 0).trans rfl; have hcz70_1 : w67.cell? ⟨gb298, 1, none⟩ = some (.int .i64 t296) := (blk_cell BK298.out 1).trans rfl; have hfz70_0 := blk_frozen BK298.out 0; have hfz70_1 := blk_frozen BK298.out 1; have hcz71_0 : w67.cell? ⟨gb290, 0, none⟩ = some (.int .i64 t284) := (blk_cell BK290.out 0).trans rfl; have hcz71_1 : w67.cell? ⟨gb290, 1, none⟩ = some (.int .i64 t285) := (blk_cell BK290.out 1).trans rfl; have hfz71_0 := blk_frozen BK290.out 0; have hfz71_1 := blk_frozen BK290.out 1) | (go_at_call 17; (with_reducible refine (congruence_Leq.calls k t295 t296 t284 t285 true _ A41.out).mono ?_); rintro e w72 ⟨rfl, hb⟩; have n0_ := Aside0.mk (blk_below (g := gb283) (o := .cells #[.int .u8 a3_0, .int .u8 a3_1, .int .u8 a3_2] 42 (0, 0)) (by (with_reducible repeat (first | refine blk_drew ?_ | refine blk_alloc ?_ _)); exact BK283.out) hb); have n1_ := Aside0.mk (blk_below (g := gb290) (o := .cells #[.int .i64 t284, .int .i64 t285] 25 (0, 0)) (by (with_reducible repeat (first | refine blk_drew ?_ | refine blk_alloc ?_ _)); exact BK290.out) hb); have n2_ := Aside0.mk (blk_below (g := gb291) (o := .cells #[.int .i64 t286, .int .i64 t287] 25 (0, 0)) (by (with_reducible repeat (first | refine blk_drew ?_ | refine blk_alloc ?_ _)); exact BK291.out) hb); have n3_ := Aside0.mk (blk_below (g := gb292) (o := .cells #[.int .i64 t288, .int .i64 t289] 25 (0, 0)) (by (with_reducible repeat (first | refine blk_drew ?_ | refine blk_alloc ?_ _)); exact BK292.out) hb); have n4_ := Aside0.mk (blk_below (g := gb297) (o := .cells #[.int .i64 t293, .int .i64 t294] 25 (0, 0)) (by (with_reducible repeat (first | refine blk_drew ?_ | refine blk_alloc ?_ _)); exact BK297.out) hb); have n5_ := Aside0.mk (blk_below (g := gb298) (o := .cells #[.int .i64 t295, .int .i64 t296] 25 (0, 0)) (by (with_reducible repeat (first | refine blk_drew ?_ | refine blk_alloc ?_ _)); exact BK298.out) hb); have n6_ := Aside0.mk (below_step (by repeat (first | (with_reducible first | exact HB.out | apply below_alloc | apply below_drew1 | refine below_set ?_ GE283.out | refine below_set ?_ GE290.out | refine below_set ?_ GE291.out | refine below_set ?_ GE292.out | refine below_set ?_ GE297.out | refine below_set ?_ GE298.out) | exact HB.out)) hb); clear BK283; clear BK290; clear BK291; clear BK292; clear BK297; clear BK298; clear HB; have BK283 := n0_; have BK290 := n1_; have BK291 := n2_; have BK292 := n3_; have BK297 := n4_; have BK298 := n5_; have HB := n6_; clear n0_ n1_ n2_ n3_ n4_ n5_ n6_; (try clear hb); (try clear hb2); (try clear hk); (try clear hi); have hcz73_0 : w72.cell? ⟨gb298, 0, none⟩ = some (.int .i64 t295) := (blk_cell BK298.out 0).trans rfl; have hcz73_1 : w72.cell? ⟨gb298, 1, none⟩ = some (.int .i64 t296) := (blk_cell BK298.out 1).trans rfl; have hfz73_0 := blk_frozen BK298.out 0; have hfz73_1 := blk_frozen BK298.out 1; have hcz74_0 : w72.cell? ⟨gb291, 0, none⟩ = some (.int .i64 t286) := (blk_cell BK291.out 0).trans rfl; have hcz74_1 : w72.cell? ⟨gb291, 1, none⟩ = some (.int .i64 t287) := (blk_cell BK291.out 1).trans rfl; have hfz74_0 := blk_frozen BK291.out 0; have hfz74_1 := blk_frozen BK291.out 1) | (go_at_call 17; (with_reducible refine (congruence_Leq.calls k t295 t296 t286 t287 true _ A43.out).mono ?_); rintro e w75 ⟨rfl, hb⟩; have n0_ := Aside0.mk (blk_below (g := gb283) (o := .cells #[.int .u8 a3_0, .int .u8 a3_1, .int .u8 a3_2] 42 (0, 0)) (by (with_reducible repeat (first | refine blk_drew ?_ | refine blk_alloc ?_ _)); exact BK283.out) hb); have n1_ := Aside0.mk (blk_below (g := gb290) (o := .cells #[.int .i64 t284, .int .i64 t285] 25 (0, 0)) (by (with_reducible repeat (first | refine blk_drew ?_ | refine blk_alloc ?_ _)); exact BK290.out) hb); have n2_ := Aside0.mk (blk_below (g := gb291) (o := .cells #[.int .i64 t286, .int .i64 t287] 25 (0, 0)) (by (with_reducible repeat (first | refine blk_drew ?_ | refine blk_alloc ?_ _)); exact BK291.out) hb); have n3_ := Aside0.mk (blk_below (g := gb292) (o := .cells #[.int .i64 t288, .int .i64 t289] 25 (0, 0)) (by (with_reducible repeat (first | refine blk_drew ?_ | refine blk_alloc ?_ _)); exact BK292.out) hb); have n4_ := Aside0.mk (blk_below (g := gb297) (o := .cells #[.int .i64 t293, .int .i64 t294] 25 (0, 0)) (by (with_reducible repeat (first | refine blk_drew ?_ | refine blk_alloc ?_ _)); exact BK297.out) hb); have n5_ := Aside0.mk (blk_below (g := gb298) (o := .cells #[.int .i64 t295, .int .i64 t296] 25 (0, 0)) (by (with_reducible repeat (first | refine blk_drew ?_ | refine blk_alloc ?_ _)); exact BK298.out) hb); have n6_ := Aside0.mk (below_step (by repeat (first | (with_reducible first | exact HB.out | apply below_alloc | apply below_drew1 | refine below_set ?_ GE283.out | refine below_set ?_ GE290.out | refine below_set ?_ GE291.out | refine below_set ?_ GE292.out | refine below_set ?_ GE297.out | refine below_set ?_ GE298.out) | exact HB.out)) hb); clear BK283; clear BK290; clear BK291; clear BK292; clear BK297; clear BK298; clear HB; have BK283 := n0_; have BK290 := n1_; have BK291 := n2_; have BK292 := n3_; have BK297 := n4_; have BK298 := n5_; have HB := n6_; clear n0_ n1_ n2_ n3_ n4_ n5_ n6_; (try clear hb); (try clear hb2); (try clear hk); (try clear hi); have hcz76_0 : w75.cell? ⟨gb290, 0, none⟩ = some (.int .i64 t284) := (blk_cell BK290.out 0).trans rfl; have hcz76_1 : w75.cell? ⟨gb290, 1, none⟩ = some (.int .i64 t285) := (blk_cell BK290.out 1).trans rfl; have hfz76_0 := blk_frozen BK290.out 0; have hfz76_1 := blk_frozen BK290.out 1; have hnb77 := NB292_283.out; have hnc77 := NB283_292.out; have hcz78_0 : w75.cell? ⟨gb292, 0, none⟩ = some (.int .i64 t288) := (blk_cell BK292.out 0).trans rfl; have hcz78_1 : w75.cell? ⟨gb292, 1, none⟩ = some (.int .i64 t289) := (blk_cell BK292.out 1).trans rfl; have hfz78_0 := blk_frozen BK292.out 0; have hfz78_1 := blk_frozen BK292.out 1) | (go_at_call 17; (with_reducible refine (congruence_Leq.calls k t284 t285 t288 t289 true _ A45.out).mono ?_); rintro e w79 ⟨rfl, hb⟩; have n0_ := Aside0.mk (blk_below (g := gb283) (o := .cells #[.int .u8 a3_0, .int .u8 a3_1, .int .u8 a3_2] 42 (0, 0)) (by (with_reducible repeat (first | refine blk_drew ?_ | refine blk_alloc ?_ _)); exact BK283.out) hb); have n1_ := Aside0.mk (blk_below (g := gb290) (o := .cells #[.int .i64 t284, .int .i64 t285] 25 (0, 0)) (by (with_reducible repeat (first | refine blk_drew ?_ | refine blk_alloc ?_ _)); exact BK290.out) hb); have n2_ := Aside0.mk (blk_below (g := gb291) (o := .cells #[.int .i64 t286, .int .i64 t287] 25 (0, 0)) (by (with_reducible repeat (first | refine blk_drew ?_ | refine blk_alloc ?_ _)); exact BK291.out) hb); have n3_ := Aside0.mk (blk_below (g := gb292) (o := .cells #[.int .i64 t288, .int .i64 t289] 25 (0, 0)) (by (with_reducible repeat (first | refine blk_drew ?_ | refine blk_alloc ?_ _)); exact BK292.out) hb); have n4_ := Aside0.mk (blk_below (g := gb297) (o := .cells #[.int .i64 t293, .int .i64 t294] 25 (0, 0)) (by (with_reducible repeat (first | refine blk_drew ?_ | refine blk_alloc ?_ _)); exact BK297.out) hb); have n5_ := Aside0.mk (blk_below (g := gb298) (o := .cells #[.int .i64 t295, .int .i64 t296] 25 (0, 0)) (by (with_reducible repeat (first | refine blk_drew ?_ | refine blk_alloc ?_ _)); exact BK298.out) hb); have n6_ := Aside0.mk (below_step (by repeat (first | (with_reducible first | exact HB.out | apply below_alloc | apply below_drew1 | refine below_set ?_ GE283.out | refine below_set ?_ GE290.out | refine below_set ?_ GE291.out | refine below_set ?_ GE292.out | refine below_set ?_ GE297.out | refine below_set ?_ GE298.out) | exact HB.out)) hb); clear BK283; clear BK290; clear BK291; clear BK292; clear BK297; clear BK298; clear HB; have BK283 := n0_; have BK290 := n1_; have BK291 := n2_; have BK292 := n3_; have BK297 := n4_; have BK298 := n5_; have HB := n6_; clear n0_ n1_ n2_ n3_ n4_ n5_ n6_; (try clear hb); (try clear hb2); (try clear hk); (try clear hi); have hcz80_0 : w79.cell? ⟨gb291, 0, none⟩ = some (.int .i64 t286) := (blk_cell BK291.out 0).trans rfl; have hcz80_1 : w79.cell? ⟨gb291, 1, none⟩ = some (.int .i64 t287) := (blk_cell BK291.out 1).trans rfl; have hfz80_0 := blk_frozen BK291.out 0; have hfz80_1 := blk_frozen BK291.out 1; have hcz81_0 : w79.cell? ⟨gb292, 0, none⟩ = some (.int .i64 t288) := (blk_cell BK292.out 0).trans rfl; have hcz81_1 : w79.cell? ⟨gb292, 1, none⟩ = some (.int .i64 t289) := (blk_cell BK292.out 1).trans rfl; have hfz81_0 := blk_frozen BK292.out 0; have hfz81_1 := blk_frozen BK292.out 1) | (go_at_call 17; (with_reducible refine (congruence_Leq.calls k t286 t287 t288 t289 true _ A47.out).mono ?_); rintro e w82 ⟨rfl, hb⟩; have n0_ := Aside0.mk (blk_below (g := gb283) (o := .cells #[.int .u8 a3_0, .int .u8 a3_1, .int .u8 a3_2] 42 (0, 0)) (by (with_reducible repeat (first | refine blk_drew ?_ | refine blk_alloc ?_ _)); exact BK283.out) hb); have n1_ := Aside0.mk (blk_below (g := gb290) (o := .cells #[.int .i64 t284, .int .i64 t285] 25 (0, 0)) (by (with_reducible repeat (first | refine blk_drew ?_ | refine blk_alloc ?_ _)); exact BK290.out) hb); have n2_ := Aside0.mk (blk_below (g := gb291) (o := .cells #[.int .i64 t286, .int .i64 t287] 25 (0, 0)) (by (with_reducible repeat (first | refine blk_drew ?_ | refine blk_alloc ?_ _)); exact BK291.out) hb); have n3_ := Aside0.mk (blk_below (g := gb292) (o := .cells #[.int .i64 t288, .int .i64 t289] 25 (0, 0)) (by (with_reducible repeat (first | refine blk_drew ?_ | refine blk_alloc ?_ _)); exact BK292.out) hb); have n4_ := Aside0.mk (blk_below (g := gb297) (o := .cells #[.int .i64 t293, .int .i64 t294] 25 (0, 0)) (by (with_reducible repeat (first | refine blk_drew ?_ | refine blk_alloc ?_ _)); exact BK297.out) hb); have n5_ := Aside0.mk (blk_below (g := gb298) (o := .cells #[.int .i64 t295, .int .i64 t296] 25 (0, 0)) (by (with_reducible repeat (first | refine blk_drew ?_ | refine blk_alloc ?_ _)); exact BK298.out) hb); have n6_ := Aside0.mk (below_step (by repeat (first | (with_reducible first | exact HB.out | apply below_alloc | apply below_drew1 | refine below_set ?_ GE283.out | refine below_set ?_ GE290.out | refine below_set ?_ GE291.out | refine below_set ?_ GE292.out | refine below_set ?_ GE297.out | refine below_set ?_ GE298.out) | exact HB.out)) hb); clear BK283; clear BK290; clear BK291; clear BK292; clear BK297; clear BK298; clear HB; have BK283 := n0_; have BK290 := n1_; have BK291 := n2_; have BK292 := n3_; have BK297 := n4_; have BK298 := n5_; have HB := n6_; clear n0_ n1_ n2_ n3_ n4_ n5_ n6_; (try clear hb); (try clear hb2); (try clear hk); (try clear hi); have hcz83_0 : w82.cell? ⟨gb297, 0, none⟩ = some (.int .i64 t293) := (blk_cell BK297.out 0).trans rfl; have hcz83_1 : w82.cell? ⟨gb297, 1, none⟩ = some (.int .i64 t294) := (blk_cell BK297.out 1).trans rfl; have hfz83_0 := blk_frozen BK297.out 0; have hfz83_1 := blk_frozen BK297.out 1; have hcz84_0 : w82.cell? ⟨gb292, 0, none⟩ = some (.int .i64 t288) := (blk_cell BK292.out 0).trans rfl; have hcz84_1 : w82.cell? ⟨gb292, 1, none⟩ = some (.int .i64 t289) := (blk_cell BK292.out 1).trans rfl; have hfz84_0 := blk_frozen BK292.out 0; have hfz84_1 := blk_frozen BK292.out 1) | (go_at_call 17; (with_reducible refine (congruence_Leq.calls k t293 t294 t288 t289 t305 _ A49.out).mono ?_); rintro e w85 ⟨rfl, hb⟩; have n0_ := Aside0.mk (blk_below (g := gb283) (o := .cells #[.int .u8 a3_0, .int .u8 a3_1, .int .u8 a3_2] 42 (0, 0)) (by (with_reducible repeat (first | refine blk_drew ?_ | refine blk_alloc ?_ _)); exact BK283.out) hb); have n1_ := Aside0.mk (blk_below (g := gb290) (o := .cells #[.int .i64 t284, .int .i64 t285] 25 (0, 0)) (by (with_reducible repeat (first | refine blk_drew ?_ | refine blk_alloc ?_ _)); exact BK290.out) hb); have n2_ := Aside0.mk (blk_below (g := gb291) (o := .cells #[.int .i64 t286, .int .i64 t287] 25 (0, 0)) (by (with_reducible repeat (first | refine blk_drew ?_ | refine blk_alloc ?_ _)); exact BK291.out) hb); have n3_ := Aside0.mk (blk_below (g := gb292) (o := .cells #[.int .i64 t288, .int .i64 t289] 25 (0, 0)) (by (with_reducible repeat (first | refine blk_drew ?_ | refine blk_alloc ?_ _)); exact BK292.out) hb); have n4_ := Aside0.mk (blk_below (g := gb297) (o := .cells #[.int .i64 t293, .int .i64 t294] 25 (0, 0)) (by (with_reducible repeat (first | refine blk_drew ?_ | refine blk_alloc ?_ _)); exact BK297.out) hb); have n5_ := Aside0.mk (blk_below (g := gb298) (o := .cells #[.int .i64 t295, .int .i64 t296] 25 (0, 0)) (by (with_reducible repeat (first | refine blk_drew ?_ | refine blk_alloc ?_ _)); exact BK298.out) hb); have n6_ := Aside0.mk (below_step (by repeat (first | (with_reducible first | exact HB.out | apply below_alloc | apply below_drew1 | refine below_set ?_ GE283.out | refine below_set ?_ GE290.out | refine below_set ?_ GE291.out | refine below_set ?_ GE292.out | refine below_set ?_ GE297.out | refine below_set ?_ GE298.out) | exact HB.out)) hb); clear BK283; clear BK290; clear BK291; clear BK292; clear BK297; clear BK298; clear HB; have BK283 := n0_; have BK290 := n1_; have BK291 := n2_; have BK292 := n3_; have BK297 := n4_; have BK298 := n5_; have HB := n6_; clear n0_ n1_ n2_ n3_ n4_ n5_ n6_; (try clear hb); (try clear hb2); (try clear hk); (try clear hi)))
                go_meet
                case rel => exact ⟨_, (!t305), (by first | rfl | (simp; done) | (simp [*]; done)), H', ⟨by first | omega | exact Nat.le_refl _⟩, ⟨BK283.out⟩, ⟨BK290.out⟩, ⟨BK291.out⟩, ⟨BK292.out⟩, ⟨BK297.out⟩, ⟨BK298.out⟩, ⟨by repeat (first | (with_reducible first | exact HB.out | apply below_alloc | apply below_drew1 | refine below_set ?_ GE283.out | refine below_set ?_ GE290.out | refine below_set ?_ GE291.out | refine below_set ?_ GE292.out | refine below_set ?_ GE297.out | refine below_set ?_ GE298.out) | exact HB.out)⟩⟩
              · replace c48 := Bool.eq_false_iff.mpr c48
                subst c48
                have H1 : (timeboundlaw08_CongruenceLattice.j0 k a4 false t284 t285 t286 t287 t293 t294 t295 t296) = some r := by rw [if_neg (show ¬ (false = true) by decide)] at H; exact H
                clear H
                have H := H1
                clear H1
                have H' := Aside0.mk H
                clear H
                have hnb86 := NB290_283.out
                have hnc86 := NB283_290.out
                have hnb87 := NB290_291.out
                have hnc87 := NB291_290.out
                have hnb88 := NB290_292.out
                have hnc88 := NB292_290.out
                have hnb89 := NB290_297.out
                have hnc89 := NB297_290.out
                have hnb90 := NB290_298.out
                have hnc90 := NB298_290.out
                have hcz91_0 : w36.cell? ⟨gb290, 0, none⟩ = some (.int .i64 t284) := (blk_cell BK290.out 0).trans rfl
                have hcz91_1 : w36.cell? ⟨gb290, 1, none⟩ = some (.int .i64 t285) := (blk_cell BK290.out 1).trans rfl
                have hfz91_0 := blk_frozen BK290.out 0
                have hfz91_1 := blk_frozen BK290.out 1
                have hnb92 := NB297_283.out
                have hnc92 := NB283_297.out
                have hnb93 := NB297_291.out
                have hnc93 := NB291_297.out
                have hnb94 := NB297_292.out
                have hnc94 := NB292_297.out
                have hnb95 := NB297_298.out
                have hnc95 := NB298_297.out
                have hcz96_0 : w36.cell? ⟨gb297, 0, none⟩ = some (.int .i64 t293) := (blk_cell BK297.out 0).trans rfl
                have hcz96_1 : w36.cell? ⟨gb297, 1, none⟩ = some (.int .i64 t294) := (blk_cell BK297.out 1).trans rfl
                have hfz96_0 := blk_frozen BK297.out 0
                have hfz96_1 := blk_frozen BK297.out 1
                go_wp2_with (first | ((with_reducible refine gate_callee (f := 17) rfl ?_); refine goesL_ (some 37) rfl rfl Tryd.func17 (by kernel_rfl) rfl #[.agg #[.int .i64 t284, .int .i64 t285], .agg #[.int .i64 t293, .int .i64 t294]] rfl (by (try simp only [List.map_toArray, List.map_cons, List.map_nil]); first | done | rfl) ?_; (with_reducible refine (congruence_Leq.calls k t284 t285 t293 t294 true _ A37.out).mono ?_); rintro e w97 ⟨rfl, hb⟩; refine ⟨_, rfl, ?_⟩; have n0_ := Aside0.mk (blk_below (g := gb283) (o := .cells #[.int .u8 a3_0, .int .u8 a3_1, .int .u8 a3_2] 42 (0, 0)) (by (with_reducible repeat (first | refine blk_drew ?_ | refine blk_alloc ?_ _)); exact BK283.out) hb); have n1_ := Aside0.mk (blk_below (g := gb290) (o := .cells #[.int .i64 t284, .int .i64 t285] 25 (0, 0)) (by (with_reducible repeat (first | refine blk_drew ?_ | refine blk_alloc ?_ _)); exact BK290.out) hb); have n2_ := Aside0.mk (blk_below (g := gb291) (o := .cells #[.int .i64 t286, .int .i64 t287] 25 (0, 0)) (by (with_reducible repeat (first | refine blk_drew ?_ | refine blk_alloc ?_ _)); exact BK291.out) hb); have n3_ := Aside0.mk (blk_below (g := gb292) (o := .cells #[.int .i64 t288, .int .i64 t289] 25 (0, 0)) (by (with_reducible repeat (first | refine blk_drew ?_ | refine blk_alloc ?_ _)); exact BK292.out) hb); have n4_ := Aside0.mk (blk_below (g := gb297) (o := .cells #[.int .i64 t293, .int .i64 t294] 25 (0, 0)) (by (with_reducible repeat (first | refine blk_drew ?_ | refine blk_alloc ?_ _)); exact BK297.out) hb); have n5_ := Aside0.mk (blk_below (g := gb298) (o := .cells #[.int .i64 t295, .int .i64 t296] 25 (0, 0)) (by (with_reducible repeat (first | refine blk_drew ?_ | refine blk_alloc ?_ _)); exact BK298.out) hb); have n6_ := Aside0.mk (below_step (by repeat (first | (with_reducible first | exact HB.out | apply below_alloc | apply below_drew1 | refine below_set ?_ GE283.out | refine below_set ?_ GE290.out | refine below_set ?_ GE291.out | refine below_set ?_ GE292.out | refine below_set ?_ GE297.out | refine below_set ?_ GE298.out) | exact HB.out)) hb); clear BK283; clear BK290; clear BK291; clear BK292; clear BK297; clear BK298; clear HB; have BK283 := n0_; have BK290 := n1_; have BK291 := n2_; have BK292 := n3_; have BK297 := n4_; have BK298 := n5_; have HB := n6_; clear n0_ n1_ n2_ n3_ n4_ n5_ n6_; (try clear hb); (try clear hb2); (try clear hk); (try clear hi); have hnb98 := NB291_283.out; have hnc98 := NB283_291.out; have hnb99 := NB291_292.out; have hnc99 := NB292_291.out; have hnb100 := NB291_298.out; have hnc100 := NB298_291.out; have hcz101_0 : w97.cell? ⟨gb291, 0, none⟩ = some (.int .i64 t286) := (blk_cell BK291.out 0).trans rfl; have hcz101_1 : w97.cell? ⟨gb291, 1, none⟩ = some (.int .i64 t287) := (blk_cell BK291.out 1).trans rfl; have hfz101_0 := blk_frozen BK291.out 0; have hfz101_1 := blk_frozen BK291.out 1; have hcz102_0 : w97.cell? ⟨gb297, 0, none⟩ = some (.int .i64 t293) := (blk_cell BK297.out 0).trans rfl; have hcz102_1 : w97.cell? ⟨gb297, 1, none⟩ = some (.int .i64 t294) := (blk_cell BK297.out 1).trans rfl; have hfz102_0 := blk_frozen BK297.out 0; have hfz102_1 := blk_frozen BK297.out 1) | (go_at_call 17; (with_reducible refine (congruence_Leq.calls k t286 t287 t293 t294 true _ A39.out).mono ?_); rintro e w103 ⟨rfl, hb⟩; have n0_ := Aside0.mk (blk_below (g := gb283) (o := .cells #[.int .u8 a3_0, .int .u8 a3_1, .int .u8 a3_2] 42 (0, 0)) (by (with_reducible repeat (first | refine blk_drew ?_ | refine blk_alloc ?_ _)); exact BK283.out) hb); have n1_ := Aside0.mk (blk_below (g := gb290) (o := .cells #[.int .i64 t284, .int .i64 t285] 25 (0, 0)) (by (with_reducible repeat (first | refine blk_drew ?_ | refine blk_alloc ?_ _)); exact BK290.out) hb); have n2_ := Aside0.mk (blk_below (g := gb291) (o := .cells #[.int .i64 t286, .int .i64 t287] 25 (0, 0)) (by (with_reducible repeat (first | refine blk_drew ?_ | refine blk_alloc ?_ _)); exact BK291.out) hb); have n3_ := Aside0.mk (blk_below (g := gb292) (o := .cells #[.int .i64 t288, .int .i64 t289] 25 (0, 0)) (by (with_reducible repeat (first | refine blk_drew ?_ | refine blk_alloc ?_ _)); exact BK292.out) hb); have n4_ := Aside0.mk (blk_below (g := gb297) (o := .cells #[.int .i64 t293, .int .i64 t294] 25 (0, 0)) (by (with_reducible repeat (first | refine blk_drew ?_ | refine blk_alloc ?_ _)); exact BK297.out) hb); have n5_ := Aside0.mk (blk_below (g := gb298) (o := .cells #[.int .i64 t295, .int .i64 t296] 25 (0, 0)) (by (with_reducible repeat (first | refine blk_drew ?_ | refine blk_alloc ?_ _)); exact BK298.out) hb); have n6_ := Aside0.mk (below_step (by repeat (first | (with_reducible first | exact HB.out | apply below_alloc | apply below_drew1 | refine below_set ?_ GE283.out | refine below_set ?_ GE290.out | refine below_set ?_ GE291.out | refine below_set ?_ GE292.out | refine below_set ?_ GE297.out | refine below_set ?_ GE298.out) | exact HB.out)) hb); clear BK283; clear BK290; clear BK291; clear BK292; clear BK297; clear BK298; clear HB; have BK283 := n0_; have BK290 := n1_; have BK291 := n2_; have BK292 := n3_; have BK297 := n4_; have BK298 := n5_; have HB := n6_; clear n0_ n1_ n2_ n3_ n4_ n5_ n6_; (try clear hb); (try clear hb2); (try clear hk); (try clear hi); have hnb104 := NB298_283.out; have hnc104 := NB283_298.out; have hnb105 := NB298_292.out; have hnc105 := NB292_298.out; have hcz106_0 : w103.cell? ⟨gb298, 0, none⟩ = some (.int .i64 t295) := (blk_cell BK298.out 0).trans rfl; have hcz106_1 : w103.cell? ⟨gb298, 1, none⟩ = some (.int .i64 t296) := (blk_cell BK298.out 1).trans rfl; have hfz106_0 := blk_frozen BK298.out 0; have hfz106_1 := blk_frozen BK298.out 1; have hcz107_0 : w103.cell? ⟨gb290, 0, none⟩ = some (.int .i64 t284) := (blk_cell BK290.out 0).trans rfl; have hcz107_1 : w103.cell? ⟨gb290, 1, none⟩ = some (.int .i64 t285) := (blk_cell BK290.out 1).trans rfl; have hfz107_0 := blk_frozen BK290.out 0; have hfz107_1 := blk_frozen BK290.out 1) | (go_at_call 17; (with_reducible refine (congruence_Leq.calls k t295 t296 t284 t285 true _ A41.out).mono ?_); rintro e w108 ⟨rfl, hb⟩; have n0_ := Aside0.mk (blk_below (g := gb283) (o := .cells #[.int .u8 a3_0, .int .u8 a3_1, .int .u8 a3_2] 42 (0, 0)) (by (with_reducible repeat (first | refine blk_drew ?_ | refine blk_alloc ?_ _)); exact BK283.out) hb); have n1_ := Aside0.mk (blk_below (g := gb290) (o := .cells #[.int .i64 t284, .int .i64 t285] 25 (0, 0)) (by (with_reducible repeat (first | refine blk_drew ?_ | refine blk_alloc ?_ _)); exact BK290.out) hb); have n2_ := Aside0.mk (blk_below (g := gb291) (o := .cells #[.int .i64 t286, .int .i64 t287] 25 (0, 0)) (by (with_reducible repeat (first | refine blk_drew ?_ | refine blk_alloc ?_ _)); exact BK291.out) hb); have n3_ := Aside0.mk (blk_below (g := gb292) (o := .cells #[.int .i64 t288, .int .i64 t289] 25 (0, 0)) (by (with_reducible repeat (first | refine blk_drew ?_ | refine blk_alloc ?_ _)); exact BK292.out) hb); have n4_ := Aside0.mk (blk_below (g := gb297) (o := .cells #[.int .i64 t293, .int .i64 t294] 25 (0, 0)) (by (with_reducible repeat (first | refine blk_drew ?_ | refine blk_alloc ?_ _)); exact BK297.out) hb); have n5_ := Aside0.mk (blk_below (g := gb298) (o := .cells #[.int .i64 t295, .int .i64 t296] 25 (0, 0)) (by (with_reducible repeat (first | refine blk_drew ?_ | refine blk_alloc ?_ _)); exact BK298.out) hb); have n6_ := Aside0.mk (below_step (by repeat (first | (with_reducible first | exact HB.out | apply below_alloc | apply below_drew1 | refine below_set ?_ GE283.out | refine below_set ?_ GE290.out | refine below_set ?_ GE291.out | refine below_set ?_ GE292.out | refine below_set ?_ GE297.out | refine below_set ?_ GE298.out) | exact HB.out)) hb); clear BK283; clear BK290; clear BK291; clear BK292; clear BK297; clear BK298; clear HB; have BK283 := n0_; have BK290 := n1_; have BK291 := n2_; have BK292 := n3_; have BK297 := n4_; have BK298 := n5_; have HB := n6_; clear n0_ n1_ n2_ n3_ n4_ n5_ n6_; (try clear hb); (try clear hb2); (try clear hk); (try clear hi); have hcz109_0 : w108.cell? ⟨gb298, 0, none⟩ = some (.int .i64 t295) := (blk_cell BK298.out 0).trans rfl; have hcz109_1 : w108.cell? ⟨gb298, 1, none⟩ = some (.int .i64 t296) := (blk_cell BK298.out 1).trans rfl; have hfz109_0 := blk_frozen BK298.out 0; have hfz109_1 := blk_frozen BK298.out 1; have hcz110_0 : w108.cell? ⟨gb291, 0, none⟩ = some (.int .i64 t286) := (blk_cell BK291.out 0).trans rfl; have hcz110_1 : w108.cell? ⟨gb291, 1, none⟩ = some (.int .i64 t287) := (blk_cell BK291.out 1).trans rfl; have hfz110_0 := blk_frozen BK291.out 0; have hfz110_1 := blk_frozen BK291.out 1) | (go_at_call 17; (with_reducible refine (congruence_Leq.calls k t295 t296 t286 t287 true _ A43.out).mono ?_); rintro e w111 ⟨rfl, hb⟩; have n0_ := Aside0.mk (blk_below (g := gb283) (o := .cells #[.int .u8 a3_0, .int .u8 a3_1, .int .u8 a3_2] 42 (0, 0)) (by (with_reducible repeat (first | refine blk_drew ?_ | refine blk_alloc ?_ _)); exact BK283.out) hb); have n1_ := Aside0.mk (blk_below (g := gb290) (o := .cells #[.int .i64 t284, .int .i64 t285] 25 (0, 0)) (by (with_reducible repeat (first | refine blk_drew ?_ | refine blk_alloc ?_ _)); exact BK290.out) hb); have n2_ := Aside0.mk (blk_below (g := gb291) (o := .cells #[.int .i64 t286, .int .i64 t287] 25 (0, 0)) (by (with_reducible repeat (first | refine blk_drew ?_ | refine blk_alloc ?_ _)); exact BK291.out) hb); have n3_ := Aside0.mk (blk_below (g := gb292) (o := .cells #[.int .i64 t288, .int .i64 t289] 25 (0, 0)) (by (with_reducible repeat (first | refine blk_drew ?_ | refine blk_alloc ?_ _)); exact BK292.out) hb); have n4_ := Aside0.mk (blk_below (g := gb297) (o := .cells #[.int .i64 t293, .int .i64 t294] 25 (0, 0)) (by (with_reducible repeat (first | refine blk_drew ?_ | refine blk_alloc ?_ _)); exact BK297.out) hb); have n5_ := Aside0.mk (blk_below (g := gb298) (o := .cells #[.int .i64 t295, .int .i64 t296] 25 (0, 0)) (by (with_reducible repeat (first | refine blk_drew ?_ | refine blk_alloc ?_ _)); exact BK298.out) hb); have n6_ := Aside0.mk (below_step (by repeat (first | (with_reducible first | exact HB.out | apply below_alloc | apply below_drew1 | refine below_set ?_ GE283.out | refine below_set ?_ GE290.out | refine below_set ?_ GE291.out | refine below_set ?_ GE292.out | refine below_set ?_ GE297.out | refine below_set ?_ GE298.out) | exact HB.out)) hb); clear BK283; clear BK290; clear BK291; clear BK292; clear BK297; clear BK298; clear HB; have BK283 := n0_; have BK290 := n1_; have BK291 := n2_; have BK292 := n3_; have BK297 := n4_; have BK298 := n5_; have HB := n6_; clear n0_ n1_ n2_ n3_ n4_ n5_ n6_; (try clear hb); (try clear hb2); (try clear hk); (try clear hi); have hcz112_0 : w111.cell? ⟨gb290, 0, none⟩ = some (.int .i64 t284) := (blk_cell BK290.out 0).trans rfl; have hcz112_1 : w111.cell? ⟨gb290, 1, none⟩ = some (.int .i64 t285) := (blk_cell BK290.out 1).trans rfl; have hfz112_0 := blk_frozen BK290.out 0; have hfz112_1 := blk_frozen BK290.out 1; have hnb113 := NB292_283.out; have hnc113 := NB283_292.out; have hcz114_0 : w111.cell? ⟨gb292, 0, none⟩ = some (.int .i64 t288) := (blk_cell BK292.out 0).trans rfl; have hcz114_1 : w111.cell? ⟨gb292, 1, none⟩ = some (.int .i64 t289) := (blk_cell BK292.out 1).trans rfl; have hfz114_0 := blk_frozen BK292.out 0; have hfz114_1 := blk_frozen BK292.out 1) | (go_at_call 17; (with_reducible refine (congruence_Leq.calls k t284 t285 t288 t289 true _ A45.out).mono ?_); rintro e w115 ⟨rfl, hb⟩; have n0_ := Aside0.mk (blk_below (g := gb283) (o := .cells #[.int .u8 a3_0, .int .u8 a3_1, .int .u8 a3_2] 42 (0, 0)) (by (with_reducible repeat (first | refine blk_drew ?_ | refine blk_alloc ?_ _)); exact BK283.out) hb); have n1_ := Aside0.mk (blk_below (g := gb290) (o := .cells #[.int .i64 t284, .int .i64 t285] 25 (0, 0)) (by (with_reducible repeat (first | refine blk_drew ?_ | refine blk_alloc ?_ _)); exact BK290.out) hb); have n2_ := Aside0.mk (blk_below (g := gb291) (o := .cells #[.int .i64 t286, .int .i64 t287] 25 (0, 0)) (by (with_reducible repeat (first | refine blk_drew ?_ | refine blk_alloc ?_ _)); exact BK291.out) hb); have n3_ := Aside0.mk (blk_below (g := gb292) (o := .cells #[.int .i64 t288, .int .i64 t289] 25 (0, 0)) (by (with_reducible repeat (first | refine blk_drew ?_ | refine blk_alloc ?_ _)); exact BK292.out) hb); have n4_ := Aside0.mk (blk_below (g := gb297) (o := .cells #[.int .i64 t293, .int .i64 t294] 25 (0, 0)) (by (with_reducible repeat (first | refine blk_drew ?_ | refine blk_alloc ?_ _)); exact BK297.out) hb); have n5_ := Aside0.mk (blk_below (g := gb298) (o := .cells #[.int .i64 t295, .int .i64 t296] 25 (0, 0)) (by (with_reducible repeat (first | refine blk_drew ?_ | refine blk_alloc ?_ _)); exact BK298.out) hb); have n6_ := Aside0.mk (below_step (by repeat (first | (with_reducible first | exact HB.out | apply below_alloc | apply below_drew1 | refine below_set ?_ GE283.out | refine below_set ?_ GE290.out | refine below_set ?_ GE291.out | refine below_set ?_ GE292.out | refine below_set ?_ GE297.out | refine below_set ?_ GE298.out) | exact HB.out)) hb); clear BK283; clear BK290; clear BK291; clear BK292; clear BK297; clear BK298; clear HB; have BK283 := n0_; have BK290 := n1_; have BK291 := n2_; have BK292 := n3_; have BK297 := n4_; have BK298 := n5_; have HB := n6_; clear n0_ n1_ n2_ n3_ n4_ n5_ n6_; (try clear hb); (try clear hb2); (try clear hk); (try clear hi); have hcz116_0 : w115.cell? ⟨gb291, 0, none⟩ = some (.int .i64 t286) := (blk_cell BK291.out 0).trans rfl; have hcz116_1 : w115.cell? ⟨gb291, 1, none⟩ = some (.int .i64 t287) := (blk_cell BK291.out 1).trans rfl; have hfz116_0 := blk_frozen BK291.out 0; have hfz116_1 := blk_frozen BK291.out 1; have hcz117_0 : w115.cell? ⟨gb292, 0, none⟩ = some (.int .i64 t288) := (blk_cell BK292.out 0).trans rfl; have hcz117_1 : w115.cell? ⟨gb292, 1, none⟩ = some (.int .i64 t289) := (blk_cell BK292.out 1).trans rfl; have hfz117_0 := blk_frozen BK292.out 0; have hfz117_1 := blk_frozen BK292.out 1) | (go_at_call 17; (with_reducible refine (congruence_Leq.calls k t286 t287 t288 t289 false _ A47.out).mono ?_); rintro e w118 ⟨rfl, hb⟩; have n0_ := Aside0.mk (blk_below (g := gb283) (o := .cells #[.int .u8 a3_0, .int .u8 a3_1, .int .u8 a3_2] 42 (0, 0)) (by (with_reducible repeat (first | refine blk_drew ?_ | refine blk_alloc ?_ _)); exact BK283.out) hb); have n1_ := Aside0.mk (blk_below (g := gb290) (o := .cells #[.int .i64 t284, .int .i64 t285] 25 (0, 0)) (by (with_reducible repeat (first | refine blk_drew ?_ | refine blk_alloc ?_ _)); exact BK290.out) hb); have n2_ := Aside0.mk (blk_below (g := gb291) (o := .cells #[.int .i64 t286, .int .i64 t287] 25 (0, 0)) (by (with_reducible repeat (first | refine blk_drew ?_ | refine blk_alloc ?_ _)); exact BK291.out) hb); have n3_ := Aside0.mk (blk_below (g := gb292) (o := .cells #[.int .i64 t288, .int .i64 t289] 25 (0, 0)) (by (with_reducible repeat (first | refine blk_drew ?_ | refine blk_alloc ?_ _)); exact BK292.out) hb); have n4_ := Aside0.mk (blk_below (g := gb297) (o := .cells #[.int .i64 t293, .int .i64 t294] 25 (0, 0)) (by (with_reducible repeat (first | refine blk_drew ?_ | refine blk_alloc ?_ _)); exact BK297.out) hb); have n5_ := Aside0.mk (blk_below (g := gb298) (o := .cells #[.int .i64 t295, .int .i64 t296] 25 (0, 0)) (by (with_reducible repeat (first | refine blk_drew ?_ | refine blk_alloc ?_ _)); exact BK298.out) hb); have n6_ := Aside0.mk (below_step (by repeat (first | (with_reducible first | exact HB.out | apply below_alloc | apply below_drew1 | refine below_set ?_ GE283.out | refine below_set ?_ GE290.out | refine below_set ?_ GE291.out | refine below_set ?_ GE292.out | refine below_set ?_ GE297.out | refine below_set ?_ GE298.out) | exact HB.out)) hb); clear BK283; clear BK290; clear BK291; clear BK292; clear BK297; clear BK298; clear HB; have BK283 := n0_; have BK290 := n1_; have BK291 := n2_; have BK292 := n3_; have BK297 := n4_; have BK298 := n5_; have HB := n6_; clear n0_ n1_ n2_ n3_ n4_ n5_ n6_; (try clear hb); (try clear hb2); (try clear hk); (try clear hi)))
                go_meet
                case rel => exact ⟨_, (false), (by first | rfl | (simp; done) | (simp [*]; done)), H', ⟨by first | omega | exact Nat.le_refl _⟩, ⟨BK283.out⟩, ⟨BK290.out⟩, ⟨BK291.out⟩, ⟨BK292.out⟩, ⟨BK297.out⟩, ⟨BK298.out⟩, ⟨by repeat (first | (with_reducible first | exact HB.out | apply below_alloc | apply below_drew1 | refine below_set ?_ GE283.out | refine below_set ?_ GE290.out | refine below_set ?_ GE291.out | refine below_set ?_ GE292.out | refine below_set ?_ GE297.out | refine below_set ?_ GE298.out) | exact HB.out)⟩⟩
            · replace c46 := Bool.eq_false_iff.mpr c46
              subst c46
              have H1 : (timeboundlaw08_CongruenceLattice.j0 k a4 false t284 t285 t286 t287 t293 t294 t295 t296) = some r := by rw [if_neg (show ¬ (false = true) by decide)] at H; exact H
              clear H
              have H := H1
              clear H1
              have H' := Aside0.mk H
              clear H
              have hnb119 := NB290_283.out
              have hnc119 := NB283_290.out
              have hnb120 := NB290_291.out
              have hnc120 := NB291_290.out
              have hnb121 := NB290_292.out
              have hnc121 := NB292_290.out
              have hnb122 := NB290_297.out
              have hnc122 := NB297_290.out
              have hnb123 := NB290_298.out
              have hnc123 := NB298_290.out
              have hcz124_0 : w36.cell? ⟨gb290, 0, none⟩ = some (.int .i64 t284) := (blk_cell BK290.out 0).trans rfl
              have hcz124_1 : w36.cell? ⟨gb290, 1, none⟩ = some (.int .i64 t285) := (blk_cell BK290.out 1).trans rfl
              have hfz124_0 := blk_frozen BK290.out 0
              have hfz124_1 := blk_frozen BK290.out 1
              have hnb125 := NB297_283.out
              have hnc125 := NB283_297.out
              have hnb126 := NB297_291.out
              have hnc126 := NB291_297.out
              have hnb127 := NB297_292.out
              have hnc127 := NB292_297.out
              have hnb128 := NB297_298.out
              have hnc128 := NB298_297.out
              have hcz129_0 : w36.cell? ⟨gb297, 0, none⟩ = some (.int .i64 t293) := (blk_cell BK297.out 0).trans rfl
              have hcz129_1 : w36.cell? ⟨gb297, 1, none⟩ = some (.int .i64 t294) := (blk_cell BK297.out 1).trans rfl
              have hfz129_0 := blk_frozen BK297.out 0
              have hfz129_1 := blk_frozen BK297.out 1
              go_wp2_with (first | ((with_reducible refine gate_callee (f := 17) rfl ?_); refine goesL_ (some 37) rfl rfl Tryd.func17 (by kernel_rfl) rfl #[.agg #[.int .i64 t284, .int .i64 t285], .agg #[.int .i64 t293, .int .i64 t294]] rfl (by (try simp only [List.map_toArray, List.map_cons, List.map_nil]); first | done | rfl) ?_; (with_reducible refine (congruence_Leq.calls k t284 t285 t293 t294 true _ A37.out).mono ?_); rintro e w130 ⟨rfl, hb⟩; refine ⟨_, rfl, ?_⟩; have n0_ := Aside0.mk (blk_below (g := gb283) (o := .cells #[.int .u8 a3_0, .int .u8 a3_1, .int .u8 a3_2] 42 (0, 0)) (by (with_reducible repeat (first | refine blk_drew ?_ | refine blk_alloc ?_ _)); exact BK283.out) hb); have n1_ := Aside0.mk (blk_below (g := gb290) (o := .cells #[.int .i64 t284, .int .i64 t285] 25 (0, 0)) (by (with_reducible repeat (first | refine blk_drew ?_ | refine blk_alloc ?_ _)); exact BK290.out) hb); have n2_ := Aside0.mk (blk_below (g := gb291) (o := .cells #[.int .i64 t286, .int .i64 t287] 25 (0, 0)) (by (with_reducible repeat (first | refine blk_drew ?_ | refine blk_alloc ?_ _)); exact BK291.out) hb); have n3_ := Aside0.mk (blk_below (g := gb292) (o := .cells #[.int .i64 t288, .int .i64 t289] 25 (0, 0)) (by (with_reducible repeat (first | refine blk_drew ?_ | refine blk_alloc ?_ _)); exact BK292.out) hb); have n4_ := Aside0.mk (blk_below (g := gb297) (o := .cells #[.int .i64 t293, .int .i64 t294] 25 (0, 0)) (by (with_reducible repeat (first | refine blk_drew ?_ | refine blk_alloc ?_ _)); exact BK297.out) hb); have n5_ := Aside0.mk (blk_below (g := gb298) (o := .cells #[.int .i64 t295, .int .i64 t296] 25 (0, 0)) (by (with_reducible repeat (first | refine blk_drew ?_ | refine blk_alloc ?_ _)); exact BK298.out) hb); have n6_ := Aside0.mk (below_step (by repeat (first | (with_reducible first | exact HB.out | apply below_alloc | apply below_drew1 | refine below_set ?_ GE283.out | refine below_set ?_ GE290.out | refine below_set ?_ GE291.out | refine below_set ?_ GE292.out | refine below_set ?_ GE297.out | refine below_set ?_ GE298.out) | exact HB.out)) hb); clear BK283; clear BK290; clear BK291; clear BK292; clear BK297; clear BK298; clear HB; have BK283 := n0_; have BK290 := n1_; have BK291 := n2_; have BK292 := n3_; have BK297 := n4_; have BK298 := n5_; have HB := n6_; clear n0_ n1_ n2_ n3_ n4_ n5_ n6_; (try clear hb); (try clear hb2); (try clear hk); (try clear hi); have hnb131 := NB291_283.out; have hnc131 := NB283_291.out; have hnb132 := NB291_292.out; have hnc132 := NB292_291.out; have hnb133 := NB291_298.out; have hnc133 := NB298_291.out; have hcz134_0 : w130.cell? ⟨gb291, 0, none⟩ = some (.int .i64 t286) := (blk_cell BK291.out 0).trans rfl; have hcz134_1 : w130.cell? ⟨gb291, 1, none⟩ = some (.int .i64 t287) := (blk_cell BK291.out 1).trans rfl; have hfz134_0 := blk_frozen BK291.out 0; have hfz134_1 := blk_frozen BK291.out 1; have hcz135_0 : w130.cell? ⟨gb297, 0, none⟩ = some (.int .i64 t293) := (blk_cell BK297.out 0).trans rfl; have hcz135_1 : w130.cell? ⟨gb297, 1, none⟩ = some (.int .i64 t294) := (blk_cell BK297.out 1).trans rfl; have hfz135_0 := blk_frozen BK297.out 0; have hfz135_1 := blk_frozen BK297.out 1) | (go_at_call 17; (with_reducible refine (congruence_Leq.calls k t286 t287 t293 t294 true _ A39.out).mono ?_); rintro e w136 ⟨rfl, hb⟩; have n0_ := Aside0.mk (blk_below (g := gb283) (o := .cells #[.int .u8 a3_0, .int .u8 a3_1, .int .u8 a3_2] 42 (0, 0)) (by (with_reducible repeat (first | refine blk_drew ?_ | refine blk_alloc ?_ _)); exact BK283.out) hb); have n1_ := Aside0.mk (blk_below (g := gb290) (o := .cells #[.int .i64 t284, .int .i64 t285] 25 (0, 0)) (by (with_reducible repeat (first | refine blk_drew ?_ | refine blk_alloc ?_ _)); exact BK290.out) hb); have n2_ := Aside0.mk (blk_below (g := gb291) (o := .cells #[.int .i64 t286, .int .i64 t287] 25 (0, 0)) (by (with_reducible repeat (first | refine blk_drew ?_ | refine blk_alloc ?_ _)); exact BK291.out) hb); have n3_ := Aside0.mk (blk_below (g := gb292) (o := .cells #[.int .i64 t288, .int .i64 t289] 25 (0, 0)) (by (with_reducible repeat (first | refine blk_drew ?_ | refine blk_alloc ?_ _)); exact BK292.out) hb); have n4_ := Aside0.mk (blk_below (g := gb297) (o := .cells #[.int .i64 t293, .int .i64 t294] 25 (0, 0)) (by (with_reducible repeat (first | refine blk_drew ?_ | refine blk_alloc ?_ _)); exact BK297.out) hb); have n5_ := Aside0.mk (blk_below (g := gb298) (o := .cells #[.int .i64 t295, .int .i64 t296] 25 (0, 0)) (by (with_reducible repeat (first | refine blk_drew ?_ | refine blk_alloc ?_ _)); exact BK298.out) hb); have n6_ := Aside0.mk (below_step (by repeat (first | (with_reducible first | exact HB.out | apply below_alloc | apply below_drew1 | refine below_set ?_ GE283.out | refine below_set ?_ GE290.out | refine below_set ?_ GE291.out | refine below_set ?_ GE292.out | refine below_set ?_ GE297.out | refine below_set ?_ GE298.out) | exact HB.out)) hb); clear BK283; clear BK290; clear BK291; clear BK292; clear BK297; clear BK298; clear HB; have BK283 := n0_; have BK290 := n1_; have BK291 := n2_; have BK292 := n3_; have BK297 := n4_; have BK298 := n5_; have HB := n6_; clear n0_ n1_ n2_ n3_ n4_ n5_ n6_; (try clear hb); (try clear hb2); (try clear hk); (try clear hi); have hnb137 := NB298_283.out; have hnc137 := NB283_298.out; have hnb138 := NB298_292.out; have hnc138 := NB292_298.out; have hcz139_0 : w136.cell? ⟨gb298, 0, none⟩ = some (.int .i64 t295) := (blk_cell BK298.out 0).trans rfl; have hcz139_1 : w136.cell? ⟨gb298, 1, none⟩ = some (.int .i64 t296) := (blk_cell BK298.out 1).trans rfl; have hfz139_0 := blk_frozen BK298.out 0; have hfz139_1 := blk_frozen BK298.out 1; have hcz140_0 : w136.cell? ⟨gb290, 0, none⟩ = some (.int .i64 t284) := (blk_cell BK290.out 0).trans rfl; have hcz140_1 : w136.cell? ⟨gb290, 1, none⟩ = some (.int .i64 t285) := (blk_cell BK290.out 1).trans rfl; have hfz140_0 := blk_frozen BK290.out 0; have hfz140_1 := blk_frozen BK290.out 1) | (go_at_call 17; (with_reducible refine (congruence_Leq.calls k t295 t296 t284 t285 true _ A41.out).mono ?_); rintro e w141 ⟨rfl, hb⟩; have n0_ := Aside0.mk (blk_below (g := gb283) (o := .cells #[.int .u8 a3_0, .int .u8 a3_1, .int .u8 a3_2] 42 (0, 0)) (by (with_reducible repeat (first | refine blk_drew ?_ | refine blk_alloc ?_ _)); exact BK283.out) hb); have n1_ := Aside0.mk (blk_below (g := gb290) (o := .cells #[.int .i64 t284, .int .i64 t285] 25 (0, 0)) (by (with_reducible repeat (first | refine blk_drew ?_ | refine blk_alloc ?_ _)); exact BK290.out) hb); have n2_ := Aside0.mk (blk_below (g := gb291) (o := .cells #[.int .i64 t286, .int .i64 t287] 25 (0, 0)) (by (with_reducible repeat (first | refine blk_drew ?_ | refine blk_alloc ?_ _)); exact BK291.out) hb); have n3_ := Aside0.mk (blk_below (g := gb292) (o := .cells #[.int .i64 t288, .int .i64 t289] 25 (0, 0)) (by (with_reducible repeat (first | refine blk_drew ?_ | refine blk_alloc ?_ _)); exact BK292.out) hb); have n4_ := Aside0.mk (blk_below (g := gb297) (o := .cells #[.int .i64 t293, .int .i64 t294] 25 (0, 0)) (by (with_reducible repeat (first | refine blk_drew ?_ | refine blk_alloc ?_ _)); exact BK297.out) hb); have n5_ := Aside0.mk (blk_below (g := gb298) (o := .cells #[.int .i64 t295, .int .i64 t296] 25 (0, 0)) (by (with_reducible repeat (first | refine blk_drew ?_ | refine blk_alloc ?_ _)); exact BK298.out) hb); have n6_ := Aside0.mk (below_step (by repeat (first | (with_reducible first | exact HB.out | apply below_alloc | apply below_drew1 | refine below_set ?_ GE283.out | refine below_set ?_ GE290.out | refine below_set ?_ GE291.out | refine below_set ?_ GE292.out | refine below_set ?_ GE297.out | refine below_set ?_ GE298.out) | exact HB.out)) hb); clear BK283; clear BK290; clear BK291; clear BK292; clear BK297; clear BK298; clear HB; have BK283 := n0_; have BK290 := n1_; have BK291 := n2_; have BK292 := n3_; have BK297 := n4_; have BK298 := n5_; have HB := n6_; clear n0_ n1_ n2_ n3_ n4_ n5_ n6_; (try clear hb); (try clear hb2); (try clear hk); (try clear hi); have hcz142_0 : w141.cell? ⟨gb298, 0, none⟩ = some (.int .i64 t295) := (blk_cell BK298.out 0).trans rfl; have hcz142_1 : w141.cell? ⟨gb298, 1, none⟩ = some (.int .i64 t296) := (blk_cell BK298.out 1).trans rfl; have hfz142_0 := blk_frozen BK298.out 0; have hfz142_1 := blk_frozen BK298.out 1; have hcz143_0 : w141.cell? ⟨gb291, 0, none⟩ = some (.int .i64 t286) := (blk_cell BK291.out 0).trans rfl; have hcz143_1 : w141.cell? ⟨gb291, 1, none⟩ = some (.int .i64 t287) := (blk_cell BK291.out 1).trans rfl; have hfz143_0 := blk_frozen BK291.out 0; have hfz143_1 := blk_frozen BK291.out 1) | (go_at_call 17; (with_reducible refine (congruence_Leq.calls k t295 t296 t286 t287 true _ A43.out).mono ?_); rintro e w144 ⟨rfl, hb⟩; have n0_ := Aside0.mk (blk_below (g := gb283) (o := .cells #[.int .u8 a3_0, .int .u8 a3_1, .int .u8 a3_2] 42 (0, 0)) (by (with_reducible repeat (first | refine blk_drew ?_ | refine blk_alloc ?_ _)); exact BK283.out) hb); have n1_ := Aside0.mk (blk_below (g := gb290) (o := .cells #[.int .i64 t284, .int .i64 t285] 25 (0, 0)) (by (with_reducible repeat (first | refine blk_drew ?_ | refine blk_alloc ?_ _)); exact BK290.out) hb); have n2_ := Aside0.mk (blk_below (g := gb291) (o := .cells #[.int .i64 t286, .int .i64 t287] 25 (0, 0)) (by (with_reducible repeat (first | refine blk_drew ?_ | refine blk_alloc ?_ _)); exact BK291.out) hb); have n3_ := Aside0.mk (blk_below (g := gb292) (o := .cells #[.int .i64 t288, .int .i64 t289] 25 (0, 0)) (by (with_reducible repeat (first | refine blk_drew ?_ | refine blk_alloc ?_ _)); exact BK292.out) hb); have n4_ := Aside0.mk (blk_below (g := gb297) (o := .cells #[.int .i64 t293, .int .i64 t294] 25 (0, 0)) (by (with_reducible repeat (first | refine blk_drew ?_ | refine blk_alloc ?_ _)); exact BK297.out) hb); have n5_ := Aside0.mk (blk_below (g := gb298) (o := .cells #[.int .i64 t295, .int .i64 t296] 25 (0, 0)) (by (with_reducible repeat (first | refine blk_drew ?_ | refine blk_alloc ?_ _)); exact BK298.out) hb); have n6_ := Aside0.mk (below_step (by repeat (first | (with_reducible first | exact HB.out | apply below_alloc | apply below_drew1 | refine below_set ?_ GE283.out | refine below_set ?_ GE290.out | refine below_set ?_ GE291.out | refine below_set ?_ GE292.out | refine below_set ?_ GE297.out | refine below_set ?_ GE298.out) | exact HB.out)) hb); clear BK283; clear BK290; clear BK291; clear BK292; clear BK297; clear BK298; clear HB; have BK283 := n0_; have BK290 := n1_; have BK291 := n2_; have BK292 := n3_; have BK297 := n4_; have BK298 := n5_; have HB := n6_; clear n0_ n1_ n2_ n3_ n4_ n5_ n6_; (try clear hb); (try clear hb2); (try clear hk); (try clear hi); have hcz145_0 : w144.cell? ⟨gb290, 0, none⟩ = some (.int .i64 t284) := (blk_cell BK290.out 0).trans rfl; have hcz145_1 : w144.cell? ⟨gb290, 1, none⟩ = some (.int .i64 t285) := (blk_cell BK290.out 1).trans rfl; have hfz145_0 := blk_frozen BK290.out 0; have hfz145_1 := blk_frozen BK290.out 1; have hnb146 := NB292_283.out; have hnc146 := NB283_292.out; have hcz147_0 : w144.cell? ⟨gb292, 0, none⟩ = some (.int .i64 t288) := (blk_cell BK292.out 0).trans rfl; have hcz147_1 : w144.cell? ⟨gb292, 1, none⟩ = some (.int .i64 t289) := (blk_cell BK292.out 1).trans rfl; have hfz147_0 := blk_frozen BK292.out 0; have hfz147_1 := blk_frozen BK292.out 1) | (go_at_call 17; (with_reducible refine (congruence_Leq.calls k t284 t285 t288 t289 false _ A45.out).mono ?_); rintro e w148 ⟨rfl, hb⟩; have n0_ := Aside0.mk (blk_below (g := gb283) (o := .cells #[.int .u8 a3_0, .int .u8 a3_1, .int .u8 a3_2] 42 (0, 0)) (by (with_reducible repeat (first | refine blk_drew ?_ | refine blk_alloc ?_ _)); exact BK283.out) hb); have n1_ := Aside0.mk (blk_below (g := gb290) (o := .cells #[.int .i64 t284, .int .i64 t285] 25 (0, 0)) (by (with_reducible repeat (first | refine blk_drew ?_ | refine blk_alloc ?_ _)); exact BK290.out) hb); have n2_ := Aside0.mk (blk_below (g := gb291) (o := .cells #[.int .i64 t286, .int .i64 t287] 25 (0, 0)) (by (with_reducible repeat (first | refine blk_drew ?_ | refine blk_alloc ?_ _)); exact BK291.out) hb); have n3_ := Aside0.mk (blk_below (g := gb292) (o := .cells #[.int .i64 t288, .int .i64 t289] 25 (0, 0)) (by (with_reducible repeat (first | refine blk_drew ?_ | refine blk_alloc ?_ _)); exact BK292.out) hb); have n4_ := Aside0.mk (blk_below (g := gb297) (o := .cells #[.int .i64 t293, .int .i64 t294] 25 (0, 0)) (by (with_reducible repeat (first | refine blk_drew ?_ | refine blk_alloc ?_ _)); exact BK297.out) hb); have n5_ := Aside0.mk (blk_below (g := gb298) (o := .cells #[.int .i64 t295, .int .i64 t296] 25 (0, 0)) (by (with_reducible repeat (first | refine blk_drew ?_ | refine blk_alloc ?_ _)); exact BK298.out) hb); have n6_ := Aside0.mk (below_step (by repeat (first | (with_reducible first | exact HB.out | apply below_alloc | apply below_drew1 | refine below_set ?_ GE283.out | refine below_set ?_ GE290.out | refine below_set ?_ GE291.out | refine below_set ?_ GE292.out | refine below_set ?_ GE297.out | refine below_set ?_ GE298.out) | exact HB.out)) hb); clear BK283; clear BK290; clear BK291; clear BK292; clear BK297; clear BK298; clear HB; have BK283 := n0_; have BK290 := n1_; have BK291 := n2_; have BK292 := n3_; have BK297 := n4_; have BK298 := n5_; have HB := n6_; clear n0_ n1_ n2_ n3_ n4_ n5_ n6_; (try clear hb); (try clear hb2); (try clear hk); (try clear hi)))
              go_meet
              case rel => exact ⟨_, (false), (by first | rfl | (simp; done) | (simp [*]; done)), H', ⟨by first | omega | exact Nat.le_refl _⟩, ⟨BK283.out⟩, ⟨BK290.out⟩, ⟨BK291.out⟩, ⟨BK292.out⟩, ⟨BK297.out⟩, ⟨BK298.out⟩, ⟨by repeat (first | (with_reducible first | exact HB.out | apply below_alloc | apply below_drew1 | refine below_set ?_ GE283.out | refine below_set ?_ GE290.out | refine below_set ?_ GE291.out | refine below_set ?_ GE292.out | refine below_set ?_ GE297.out | refine below_set ?_ GE298.out) | exact HB.out)⟩⟩
          · replace c44 := Bool.eq_false_iff.mpr c44
            subst c44
            have H1 : (none) = some r := by rw [if_neg (show ¬ (false = true) by decide)] at H; exact H
            clear H
            have H := H1
            clear H1
            exact absurd H (by simp)
        · replace c42 := Bool.eq_false_iff.mpr c42
          subst c42
          have H1 : (none) = some r := by rw [if_neg (show ¬ (false = true) by decide)] at H; exact H
          clear H
          have H := H1
          clear H1
          exact absurd H (by simp)
      · replace c40 := Bool.eq_false_iff.mpr c40
        subst c40
        have H1 : (none) = some r := by rw [if_neg (show ¬ (false = true) by decide)] at H; exact H
        clear H
        have H := H1
        clear H1
        exact absurd H (by simp)
    · replace c38 := Bool.eq_false_iff.mpr c38
      subst c38
      have H1 : (none) = some r := by rw [if_neg (show ¬ (false = true) by decide)] at H; exact H
      clear H
      have H := H1
      clear H1
      exact absurd H (by simp)
  case rest =>
    clear HC11
    try clear c1
    try clear c2
    try clear p2
    try clear c3
    try clear c4
    try clear c5
    try clear c6
    try clear c7
    try clear c8
    try clear c9
    try clear c10
    try clear c11
    try clear c12
    try clear c13
    try clear c14
    try clear c17
    try clear c23
    try clear c38
    try clear c40
    try clear c42
    try clear c44
    try clear c46
    try clear c48
    try clear c50
    try clear c51
    try clear c52
    try clear c53
    try clear c54
    try clear c56
    try clear c57
    try clear c58
    try clear c59
    try clear c62
    try clear c63
    try clear c64
    try clear c68
    try clear c69
    try clear c77
    try clear c86
    try clear c87
    try clear c88
    try clear c89
    try clear c90
    try clear c92
    try clear c93
    try clear c94
    try clear c95
    try clear c98
    try clear c99
    try clear c100
    try clear c104
    try clear c105
    try clear c113
    try clear c119
    try clear c120
    try clear c121
    try clear c122
    try clear c123
    try clear c125
    try clear c126
    try clear c127
    try clear c128
    try clear c131
    try clear c132
    try clear c133
    try clear c137
    try clear c138
    try clear c146
    try clear hcz101_0
    try clear hcz101_1
    try clear hcz102_0
    try clear hcz102_1
    try clear hcz106_0
    try clear hcz106_1
    try clear hcz107_0
    try clear hcz107_1
    try clear hcz109_0
    try clear hcz109_1
    try clear hcz110_0
    try clear hcz110_1
    try clear hcz112_0
    try clear hcz112_1
    try clear hcz114_0
    try clear hcz114_1
    try clear hcz116_0
    try clear hcz116_1
    try clear hcz117_0
    try clear hcz117_1
    try clear hcz124_0
    try clear hcz124_1
    try clear hcz129_0
    try clear hcz129_1
    try clear hcz134_0
    try clear hcz134_1
    try clear hcz135_0
    try clear hcz135_1
    try clear hcz139_0
    try clear hcz139_1
    try clear hcz140_0
    try clear hcz140_1
    try clear hcz142_0
    try clear hcz142_1
    try clear hcz143_0
    try clear hcz143_1
    try clear hcz145_0
    try clear hcz145_1
    try clear hcz147_0
    try clear hcz147_1
    try clear hcz55_0
    try clear hcz55_1
    try clear hcz60_0
    try clear hcz60_1
    try clear hcz65_0
    try clear hcz65_1
    try clear hcz66_0
    try clear hcz66_1
    try clear hcz70_0
    try clear hcz70_1
    try clear hcz71_0
    try clear hcz71_1
    try clear hcz73_0
    try clear hcz73_1
    try clear hcz74_0
    try clear hcz74_1
    try clear hcz76_0
    try clear hcz76_1
    try clear hcz78_0
    try clear hcz78_1
    try clear hcz80_0
    try clear hcz80_1
    try clear hcz81_0
    try clear hcz81_1
    try clear hcz83_0
    try clear hcz83_1
    try clear hcz84_0
    try clear hcz84_1
    try clear hcz91_0
    try clear hcz91_1
    try clear hcz96_0
    try clear hcz96_1
    try clear hfz101_0
    try clear hfz101_1
    try clear hfz102_0
    try clear hfz102_1
    try clear hfz106_0
    try clear hfz106_1
    try clear hfz107_0
    try clear hfz107_1
    try clear hfz109_0
    try clear hfz109_1
    try clear hfz110_0
    try clear hfz110_1
    try clear hfz112_0
    try clear hfz112_1
    try clear hfz114_0
    try clear hfz114_1
    try clear hfz116_0
    try clear hfz116_1
    try clear hfz117_0
    try clear hfz117_1
    try clear hfz124_0
    try clear hfz124_1
    try clear hfz129_0
    try clear hfz129_1
    try clear hfz134_0
    try clear hfz134_1
    try clear hfz135_0
    try clear hfz135_1
    try clear hfz139_0
    try clear hfz139_1
    try clear hfz140_0
    try clear hfz140_1
    try clear hfz142_0
    try clear hfz142_1
    try clear hfz143_0
    try clear hfz143_1
    try clear hfz145_0
    try clear hfz145_1
    try clear hfz147_0
    try clear hfz147_1
    try clear hfz55_0
    try clear hfz55_1
    try clear hfz60_0
    try clear hfz60_1
    try clear hfz65_0
    try clear hfz65_1
    try clear hfz66_0
    try clear hfz66_1
    try clear hfz70_0
    try clear hfz70_1
    try clear hfz71_0
    try clear hfz71_1
    try clear hfz73_0
    try clear hfz73_1
    try clear hfz74_0
    try clear hfz74_1
    try clear hfz76_0
    try clear hfz76_1
    try clear hfz78_0
    try clear hfz78_1
    try clear hfz80_0
    try clear hfz80_1
    try clear hfz81_0
    try clear hfz81_1
    try clear hfz83_0
    try clear hfz83_1
    try clear hfz84_0
    try clear hfz84_1
    try clear hfz91_0
    try clear hfz91_1
    try clear hfz96_0
    try clear hfz96_1
    obtain ⟨kq, x72_10, rfl, HA, HJ10, BK283, BK290, BK291, BK292, BK297, BK298, HB⟩ := hcut
    cases kq with
    | zero => exact absurd HA.out (by simp [timeboundlaw08_CongruenceLattice.j0])
    | succ kj10 =>
      have H := HA.out
      clear HA
      simp only [timeboundlaw08_CongruenceLattice.j0] at H
      by_cases c149 : x72_10 = true
      · subst c149
        have H1 : (none) = some r := by rw [if_pos rfl] at H; exact H
        clear H
        have H := H1
        clear H1
        exact absurd H (by simp)
      · replace c149 := Bool.eq_false_iff.mpr c149
        subst c149
        have H1 : (if t284 ≥ 0 then ((timeboundlaw08_member.f t284 t285 ((a4) % 4294967296)).bind fun t306 => (timeboundlaw08_CongruenceLattice.j1 kj10 t306 t284 t285 t286 t287 t293 t294 t295 t296)) else (timeboundlaw08_CongruenceLattice.j1 kj10 (wrap64 (a4)) t284 t285 t286 t287 t293 t294 t295 t296)) = some r := by rw [if_neg (show ¬ (false = true) by decide)] at H; exact H
        clear H
        have H := H1
        clear H1
        have HC150 := Aside0.mk H
        clear H
        have hnb151 := NB290_283.out
        have hnc151 := NB283_290.out
        have hnb152 := NB290_291.out
        have hnc152 := NB291_290.out
        have hnb153 := NB290_292.out
        have hnc153 := NB292_290.out
        have hnb154 := NB290_297.out
        have hnc154 := NB297_290.out
        have hnb155 := NB290_298.out
        have hnc155 := NB298_290.out
        have hcz156_0 : wc.cell? ⟨gb290, 0, none⟩ = some (.int .i64 t284) := (blk_cell BK290.out 0).trans rfl
        have hcz156_1 : wc.cell? ⟨gb290, 1, none⟩ = some (.int .i64 t285) := (blk_cell BK290.out 1).trans rfl
        have hfz156_0 := blk_frozen BK290.out 0
        have hfz156_1 := blk_frozen BK290.out 1
        go_upto_if 77 with (fail)
        go_cut [16] (fun v16 wc => ∃ (kq : Nat) (x16_149 : Int), v16 = .int .i64 x16_149 ∧ Aside0 (timeboundlaw08_CongruenceLattice.j1 kq x16_149 t284 t285 t286 t287 t293 t294 t295 t296 = some r) ∧ Aside0 (kq ≤ kj10) ∧ Aside0 (wc.heap[gb283]? = some (.cells #[.int .u8 a3_0, .int .u8 a3_1, .int .u8 a3_2] 42 (0, 0))) ∧ Aside0 (wc.heap[gb290]? = some (.cells #[.int .i64 t284, .int .i64 t285] 25 (0, 0))) ∧ Aside0 (wc.heap[gb291]? = some (.cells #[.int .i64 t286, .int .i64 t287] 25 (0, 0))) ∧ Aside0 (wc.heap[gb292]? = some (.cells #[.int .i64 t288, .int .i64 t289] 25 (0, 0))) ∧ Aside0 (wc.heap[gb297]? = some (.cells #[.int .i64 t293, .int .i64 t294] 25 (0, 0))) ∧ Aside0 (wc.heap[gb298]? = some (.cells #[.int .i64 t295, .int .i64 t296] 25 (0, 0))) ∧ Aside0 (Below w.heap.size w wc))
        case first =>
          have H := HC150.out
          clear HC150
          by_cases c157 : t284 ≥ 0
          · rw [if_pos c157] at H
            have c157b0 : decide (0 ≤ t284) = true := decide_eq_true c157
            clear c157
            (first | rw [c157b0] | (simp only [i64_w, i32_w]; rw [c157b0]) | skip)
            replace H := Option.bind_eq_some_iff.mp H
            obtain ⟨t306, A1580, H⟩ := H
            replace H : (timeboundlaw08_CongruenceLattice.j1 kj10 t306 t284 t285 t286 t287 t293 t294 t295 t296) = some r := H
            have A158 := Aside0.mk A1580
            clear A1580
            have H' := Aside0.mk H
            clear H
            have hnb159 := NB290_283.out
            have hnc159 := NB283_290.out
            have hnb160 := NB290_291.out
            have hnc160 := NB291_290.out
            have hnb161 := NB290_292.out
            have hnc161 := NB292_290.out
            have hnb162 := NB290_297.out
            have hnc162 := NB297_290.out
            have hnb163 := NB290_298.out
            have hnc163 := NB298_290.out
            have hcz164_0 : wc.cell? ⟨gb290, 0, none⟩ = some (.int .i64 t284) := (blk_cell BK290.out 0).trans rfl
            have hcz164_1 : wc.cell? ⟨gb290, 1, none⟩ = some (.int .i64 t285) := (blk_cell BK290.out 1).trans rfl
            have hfz164_0 := blk_frozen BK290.out 0
            have hfz164_1 := blk_frozen BK290.out 1
            go_wp2_with (first | ((with_reducible refine gate_callee (f := 12) rfl ?_); refine goesL_ (some 81) rfl rfl Tryd.func12 (by kernel_rfl) rfl #[.agg #[.int .i64 t284, .int .i64 t285], .int .u32 ((a4) % 4294967296)] rfl (by (try simp only [List.map_toArray, List.map_cons, List.map_nil]); first | done | rfl) ?_; (with_reducible refine (timeboundlaw08_member.calls t284 t285 ((a4) % 4294967296) t306 _ A158.out).mono ?_); rintro e w165 ⟨rfl, hb⟩; refine ⟨_, rfl, ?_⟩; have n0_ := Aside0.mk (blk_below (g := gb283) (o := .cells #[.int .u8 a3_0, .int .u8 a3_1, .int .u8 a3_2] 42 (0, 0)) (by (with_reducible repeat (first | refine blk_drew ?_ | refine blk_alloc ?_ _)); exact BK283.out) hb); have n1_ := Aside0.mk (blk_below (g := gb290) (o := .cells #[.int .i64 t284, .int .i64 t285] 25 (0, 0)) (by (with_reducible repeat (first | refine blk_drew ?_ | refine blk_alloc ?_ _)); exact BK290.out) hb); have n2_ := Aside0.mk (blk_below (g := gb291) (o := .cells #[.int .i64 t286, .int .i64 t287] 25 (0, 0)) (by (with_reducible repeat (first | refine blk_drew ?_ | refine blk_alloc ?_ _)); exact BK291.out) hb); have n3_ := Aside0.mk (blk_below (g := gb292) (o := .cells #[.int .i64 t288, .int .i64 t289] 25 (0, 0)) (by (with_reducible repeat (first | refine blk_drew ?_ | refine blk_alloc ?_ _)); exact BK292.out) hb); have n4_ := Aside0.mk (blk_below (g := gb297) (o := .cells #[.int .i64 t293, .int .i64 t294] 25 (0, 0)) (by (with_reducible repeat (first | refine blk_drew ?_ | refine blk_alloc ?_ _)); exact BK297.out) hb); have n5_ := Aside0.mk (blk_below (g := gb298) (o := .cells #[.int .i64 t295, .int .i64 t296] 25 (0, 0)) (by (with_reducible repeat (first | refine blk_drew ?_ | refine blk_alloc ?_ _)); exact BK298.out) hb); have n6_ := Aside0.mk (below_step (by repeat (first | (with_reducible first | exact HB.out | apply below_alloc | apply below_drew1 | refine below_set ?_ GE283.out | refine below_set ?_ GE290.out | refine below_set ?_ GE291.out | refine below_set ?_ GE292.out | refine below_set ?_ GE297.out | refine below_set ?_ GE298.out) | exact HB.out)) hb); clear BK283; clear BK290; clear BK291; clear BK292; clear BK297; clear BK298; clear HB; have BK283 := n0_; have BK290 := n1_; have BK291 := n2_; have BK292 := n3_; have BK297 := n4_; have BK298 := n5_; have HB := n6_; clear n0_ n1_ n2_ n3_ n4_ n5_ n6_; (try clear hb); (try clear hb2); (try clear hk); (try clear hi)))
            go_meet
            case rel => exact ⟨_, (t306), (by first | rfl | (simp; done) | (simp [*]; done)), H', ⟨by have := HJ10.out; first | omega | exact Nat.le_refl _⟩, ⟨BK283.out⟩, ⟨BK290.out⟩, ⟨BK291.out⟩, ⟨BK292.out⟩, ⟨BK297.out⟩, ⟨BK298.out⟩, ⟨by repeat (first | (with_reducible first | exact HB.out | apply below_alloc | apply below_drew1 | refine below_set ?_ GE283.out | refine below_set ?_ GE290.out | refine below_set ?_ GE291.out | refine below_set ?_ GE292.out | refine below_set ?_ GE297.out | refine below_set ?_ GE298.out) | exact HB.out)⟩⟩
          · rw [if_neg c157] at H
            have c157b0 : decide (0 ≤ t284) = false := decide_eq_false c157
            clear c157
            (first | rw [c157b0] | (simp only [i64_w, i32_w]; rw [c157b0]) | skip)
            have H' := Aside0.mk H
            clear H
            go_wp2
            go_meet
            case rel => exact ⟨_, (wrap64 (a4)), (by first | rfl | (simp; done) | (simp [*]; done)), H', ⟨by have := HJ10.out; first | omega | exact Nat.le_refl _⟩, ⟨BK283.out⟩, ⟨BK290.out⟩, ⟨BK291.out⟩, ⟨BK292.out⟩, ⟨BK297.out⟩, ⟨BK298.out⟩, ⟨by repeat (first | (with_reducible first | exact HB.out | apply below_alloc | apply below_drew1 | refine below_set ?_ GE283.out | refine below_set ?_ GE290.out | refine below_set ?_ GE291.out | refine below_set ?_ GE292.out | refine below_set ?_ GE297.out | refine below_set ?_ GE298.out) | exact HB.out)⟩⟩
        case rest =>
          clear HC150
          try clear c1
          try clear c2
          try clear p2
          try clear c3
          try clear c4
          try clear c5
          try clear c6
          try clear p6
          try clear c7
          try clear c8
          try clear c9
          try clear c10
          try clear c11
          try clear c12
          try clear c13
          try clear c14
          try clear c15
          try clear c16
          try clear c17
          try clear c23
          try clear c38
          try clear c40
          try clear c42
          try clear c44
          try clear c46
          try clear c48
          try clear c50
          try clear c51
          try clear c52
          try clear c53
          try clear c54
          try clear c56
          try clear c57
          try clear c58
          try clear c59
          try clear c62
          try clear c63
          try clear c64
          try clear p64
          try clear c68
          try clear c69
          try clear c77
          try clear c86
          try clear c87
          try clear c88
          try clear c89
          try clear c90
          try clear c92
          try clear c93
          try clear c94
          try clear c95
          try clear c98
          try clear c99
          try clear c100
          try clear c104
          try clear c105
          try clear c113
          try clear c119
          try clear c120
          try clear c121
          try clear c122
          try clear c123
          try clear c125
          try clear c126
          try clear c127
          try clear c128
          try clear c131
          try clear c132
          try clear c133
          try clear c137
          try clear c138
          try clear c146
          try clear c149
          try clear c151
          try clear c152
          try clear c153
          try clear c154
          try clear c155
          try clear c157
          try clear c157b0
          try clear c159
          try clear c160
          try clear c161
          try clear c162
          try clear c163
          try clear hcz101_0
          try clear hcz101_1
          try clear hcz102_0
          try clear hcz102_1
          try clear hcz106_0
          try clear hcz106_1
          try clear hcz107_0
          try clear hcz107_1
          try clear hcz109_0
          try clear hcz109_1
          try clear hcz110_0
          try clear hcz110_1
          try clear hcz112_0
          try clear hcz112_1
          try clear hcz114_0
          try clear hcz114_1
          try clear hcz116_0
          try clear hcz116_1
          try clear hcz117_0
          try clear hcz117_1
          try clear hcz124_0
          try clear hcz124_1
          try clear hcz129_0
          try clear hcz129_1
          try clear hcz134_0
          try clear hcz134_1
          try clear hcz135_0
          try clear hcz135_1
          try clear hcz139_0
          try clear hcz139_1
          try clear hcz140_0
          try clear hcz140_1
          try clear hcz142_0
          try clear hcz142_1
          try clear hcz143_0
          try clear hcz143_1
          try clear hcz145_0
          try clear hcz145_1
          try clear hcz147_0
          try clear hcz147_1
          try clear hcz156_0
          try clear hcz156_1
          try clear hcz164_0
          try clear hcz164_1
          try clear hcz55_0
          try clear hcz55_1
          try clear hcz60_0
          try clear hcz60_1
          try clear hcz65_0
          try clear hcz65_1
          try clear hcz66_0
          try clear hcz66_1
          try clear hcz70_0
          try clear hcz70_1
          try clear hcz71_0
          try clear hcz71_1
          try clear hcz73_0
          try clear hcz73_1
          try clear hcz74_0
          try clear hcz74_1
          try clear hcz76_0
          try clear hcz76_1
          try clear hcz78_0
          try clear hcz78_1
          try clear hcz80_0
          try clear hcz80_1
          try clear hcz81_0
          try clear hcz81_1
          try clear hcz83_0
          try clear hcz83_1
          try clear hcz84_0
          try clear hcz84_1
          try clear hcz91_0
          try clear hcz91_1
          try clear hcz96_0
          try clear hcz96_1
          try clear hfz101_0
          try clear hfz101_1
          try clear hfz102_0
          try clear hfz102_1
          try clear hfz106_0
          try clear hfz106_1
          try clear hfz107_0
          try clear hfz107_1
          try clear hfz109_0
          try clear hfz109_1
          try clear hfz110_0
          try clear hfz110_1
          try clear hfz112_0
          try clear hfz112_1
          try clear hfz114_0
          try clear hfz114_1
          try clear hfz116_0
          try clear hfz116_1
          try clear hfz117_0
          try clear hfz117_1
          try clear hfz124_0
          try clear hfz124_1
          try clear hfz129_0
          try clear hfz129_1
          try clear hfz134_0
          try clear hfz134_1
          try clear hfz135_0
          try clear hfz135_1
          try clear hfz139_0
          try clear hfz139_1
          try clear hfz140_0
          try clear hfz140_1
          try clear hfz142_0
          try clear hfz142_1
          try clear hfz143_0
          try clear hfz143_1
          try clear hfz145_0
          try clear hfz145_1
          try clear hfz147_0
          try clear hfz147_1
          try clear hfz156_0
          try clear hfz156_1
          try clear hfz164_0
          try clear hfz164_1
          try clear hfz55_0
          try clear hfz55_1
          try clear hfz60_0
          try clear hfz60_1
          try clear hfz65_0
          try clear hfz65_1
          try clear hfz66_0
          try clear hfz66_1
          try clear hfz70_0
          try clear hfz70_1
          try clear hfz71_0
          try clear hfz71_1
          try clear hfz73_0
          try clear hfz73_1
          try clear hfz74_0
          try clear hfz74_1
          try clear hfz76_0
          try clear hfz76_1
          try clear hfz78_0
          try clear hfz78_1
          try clear hfz80_0
          try clear hfz80_1
          try clear hfz81_0
          try clear hfz81_1
          try clear hfz83_0
          try clear hfz83_1
          try clear hfz84_0
          try clear hfz84_1
          try clear hfz91_0
          try clear hfz91_1
          try clear hfz96_0
          try clear hfz96_1
          try clear p2
          obtain ⟨kq, x16_149, rfl, HA, HJ149, BK283, BK290, BK291, BK292, BK297, BK298, HB⟩ := hcut
          cases kq with
          | zero => exact absurd HA.out (by simp [timeboundlaw08_CongruenceLattice.j1])
          | succ kj149 =>
            have H := HA.out
            clear HA
            simp only [timeboundlaw08_CongruenceLattice.j1] at H
            replace H := Option.bind_eq_some_iff.mp H
            obtain ⟨t307, A1660, H⟩ := H
            replace H : (if t307 = true then ((congruence_Has.f kj149 t286 t287 x16_149).bind fun t308 => ((congruence_Has.f kj149 t295 t296 x16_149).bind fun t309 => (if (t308 == t309) = true then ((congruence_Join.f kj149 t286 t287 t284 t285).bind fun bt310 => (if (bt310.1 == t293 && (bt310.2 == t294)) = true then ((congruence_Leq.f kj149 t284 t285 t284 t285).bind fun t312 => (if t312 = true then ((timeboundlaw08_awake.f kj149).bind fun t313 => (some t313)) else (none))) else (none))) else (none)))) else ((congruence_Has.f kj149 t295 t296 x16_149).bind fun t314 => (if (false == t314) = true then ((congruence_Join.f kj149 t286 t287 t284 t285).bind fun bt315 => (if (bt315.1 == t293 && (bt315.2 == t294)) = true then ((congruence_Leq.f kj149 t284 t285 t284 t285).bind fun t317 => (if t317 = true then ((timeboundlaw08_awake.f kj149).bind fun t318 => (some t318)) else (none))) else (none))) else (none)))) = some r := H
            have A166 := Aside0.mk A1660
            clear A1660
            by_cases c167 : t307 = true
            · subst c167
              have H1 : ((congruence_Has.f kj149 t286 t287 x16_149).bind fun t308 => ((congruence_Has.f kj149 t295 t296 x16_149).bind fun t309 => (if (t308 == t309) = true then ((congruence_Join.f kj149 t286 t287 t284 t285).bind fun bt310 => (if (bt310.1 == t293 && (bt310.2 == t294)) = true then ((congruence_Leq.f kj149 t284 t285 t284 t285).bind fun t312 => (if t312 = true then ((timeboundlaw08_awake.f kj149).bind fun t313 => (some t313)) else (none))) else (none))) else (none)))) = some r := by rw [if_pos rfl] at H; exact H
              clear H
              have H := H1
              clear H1
              replace H := Option.bind_eq_some_iff.mp H
              obtain ⟨t308, A1680, H⟩ := H
              replace H : ((congruence_Has.f kj149 t295 t296 x16_149).bind fun t309 => (if (t308 == t309) = true then ((congruence_Join.f kj149 t286 t287 t284 t285).bind fun bt310 => (if (bt310.1 == t293 && (bt310.2 == t294)) = true then ((congruence_Leq.f kj149 t284 t285 t284 t285).bind fun t312 => (if t312 = true then ((timeboundlaw08_awake.f kj149).bind fun t313 => (some t313)) else (none))) else (none))) else (none))) = some r := H
              have A168 := Aside0.mk A1680
              clear A1680
              replace H := Option.bind_eq_some_iff.mp H
              obtain ⟨t309, A1690, H⟩ := H
              replace H : (if (t308 == t309) = true then ((congruence_Join.f kj149 t286 t287 t284 t285).bind fun bt310 => (if (bt310.1 == t293 && (bt310.2 == t294)) = true then ((congruence_Leq.f kj149 t284 t285 t284 t285).bind fun t312 => (if t312 = true then ((timeboundlaw08_awake.f kj149).bind fun t313 => (some t313)) else (none))) else (none))) else (none)) = some r := H
              have A169 := Aside0.mk A1690
              clear A1690
              by_cases c170 : (t308 == t309) = true
              · rw [if_pos c170] at H
                have c170b0 : (t308 == t309) = true := c170
                (try (have c170b1 : decide (t308 = t309) = true := by simpa using c170))
                (try (have c170b2 : (t308 == t309) = true := by simpa using c170))
                clear c170
                replace H := Option.bind_eq_some_iff.mp H
                obtain ⟨⟨t310, t311⟩, A1710, H⟩ := H
                replace H : (if (t310 == t293 && (t311 == t294)) = true then ((congruence_Leq.f kj149 t284 t285 t284 t285).bind fun t312 => (if t312 = true then ((timeboundlaw08_awake.f kj149).bind fun t313 => (some t313)) else (none))) else (none)) = some r := H
                have A171 := Aside0.mk A1710
                clear A1710
                by_cases c172 : (t310 == t293 && (t311 == t294)) = true
                · rw [if_pos c172] at H
                  have c172b0 : (t310 == t293 && (t311 == t294)) = true := c172
                  (try (have c172b1 : decide (t310 = t293 && (t311 == t294)) = true := by simpa using c172))
                  (try (have c172b2 : (t310 == t293 && (t311 == t294)) = true := by simpa using c172))
                  clear c172
                  replace H := Option.bind_eq_some_iff.mp H
                  obtain ⟨t312, A1730, H⟩ := H
                  replace H : (if t312 = true then ((timeboundlaw08_awake.f kj149).bind fun t313 => (some t313)) else (none)) = some r := H
                  have A173 := Aside0.mk A1730
                  clear A1730
                  by_cases c174 : t312 = true
                  · subst c174
                    have H1 : ((timeboundlaw08_awake.f kj149).bind fun t313 => (some t313)) = some r := by rw [if_pos rfl] at H; exact H
                    clear H
                    have H := H1
                    clear H1
                    replace H := Option.bind_eq_some_iff.mp H
                    obtain ⟨t313, A1750, H⟩ := H
                    replace H : (some t313) = some r := H
                    have A175 := Aside0.mk A1750
                    clear A1750
                    obtain rfl := Option.some.inj H
                    try go_wp2
                    have n0_ := Aside0.mk (blk_drew BK283.out)
                    have n1_ := Aside0.mk (blk_drew BK290.out)
                    have n2_ := Aside0.mk (blk_drew BK291.out)
                    have n3_ := Aside0.mk (blk_drew BK292.out)
                    have n4_ := Aside0.mk (blk_drew BK297.out)
                    have n5_ := Aside0.mk (blk_drew BK298.out)
                    have n6_ := Aside0.mk (below_drew1 HB.out)
                    clear BK283
                    clear BK290
                    clear BK291
                    clear BK292
                    clear BK297
                    clear BK298
                    clear HB
                    have BK283 := n0_
                    have BK290 := n1_
                    have BK291 := n2_
                    have BK292 := n3_
                    have BK297 := n4_
                    have BK298 := n5_
                    have HB := n6_
                    clear n0_ n1_ n2_ n3_ n4_ n5_ n6_
                    refine start_ (n := 28) (S := fun w' => w'.cell? ⟨gb290, 0, none⟩ = some (.int .i64 t284) ∧ w'.cell? ⟨gb290, 1, none⟩ = some (.int .i64 t285) ∧ w'.cell? ⟨gb298, 0, none⟩ = some (.int .i64 t295) ∧ w'.cell? ⟨gb298, 1, none⟩ = some (.int .i64 t296) ∧ w'.cell? ⟨gb291, 0, none⟩ = some (.int .i64 t286) ∧ w'.cell? ⟨gb291, 1, none⟩ = some (.int .i64 t287) ∧ w'.cell? ⟨gb297, 0, none⟩ = some (.int .i64 t293) ∧ w'.cell? ⟨gb297, 1, none⟩ = some (.int .i64 t294)) (ds := []) #[Z, Z, Z, Z, Z, Z, Z, Z, Z, Z, Z, Z, Z, Z, Z, Z, Z, Z, Z, Z, Z, Z, Z, Z, Z, Z, Z, Z] (by kernel_rfl) rfl rfl ⟨(blk_cell BK290.out 0).trans rfl, (blk_cell BK290.out 1).trans rfl, (blk_cell BK298.out 0).trans rfl, (blk_cell BK298.out 1).trans rfl, (blk_cell BK291.out 0).trans rfl, (blk_cell BK291.out 1).trans rfl, (blk_cell BK297.out 0).trans rfl, (blk_cell BK297.out 1).trans rfl⟩ (fun hHeld => ?_); refine with_tabW timeboundlaw08_CongruenceLattice.tab8 timeboundlaw08_CongruenceLattice.bits8 (fun HT_ HW_ => ?_)
                    generalize wc.drew = w176 at BK283 BK290 BK291 BK292 BK297 BK298 HB hHeld ⊢
                    refine pure_ (i := 1) (N := some 83) (v := ?_) (a' := ?_) #[Z, Y, Z, Z, Z, Z, Z, Z, Z, Z, Z, Z, Z, Z, Z, Z, Z, Z, Z, Z, Z, Z, Z, Z, Z, Z, Z, Z] rfl rfl (any_of HT_.out (by kernel_rfl)) (fun _ _ _ h => h) (Or.inl ⟨by rfl, ?_⟩) ?_ ?_
                    rotate_left
                    · intro w'
                      go_simp
                      with_reducible rfl
                    rotate_left
                    · simp only [Act.put, sA, sB, sC, i64_w, i32_w]
                      rfl
                    refine pure_ (i := 9) (N := some 91) (v := ?_) (a' := ?_) #[Z, Y, Z, Z, Z, Z, Z, Z, Z, Y, Z, Z, Z, Z, Z, Z, Z, Z, Z, Z, Z, Z, Z, Z, Z, Z, Z, Z] rfl rfl (any_of HT_.out (by kernel_rfl)) (fun _ _ _ h => h) (Or.inl ⟨by rfl, ?_⟩) ?_ ?_
                    rotate_left
                    · intro w'
                      go_simp
                      with_reducible rfl
                    rotate_left
                    · simp only [Act.put, sA, sB, sC, i64_w, i32_w]
                      rfl
                    refine take_ (i := 0) (N := some 82) (v := ?_) (a' := ?_) #[Y, Y, Z, Z, Z, Z, Z, Z, Z, Y, Z, Z, Z, Z, Z, Z, Z, Z, Z, Z, Z, Z, Z, Z, Z, Z, Z, Z] rfl rfl (take_ofW HT_.out HW_.out (by kernel_rfl)) (fun _ _ _ h => h) (Or.inl ⟨by rfl, ?_⟩) hHeld ?_ ?_
                    rotate_left
                    · rintro w' ⟨s0, s1, s2, s3, s4, s5, s6, s7⟩
                      go_simp
                      with_reducible rfl
                    rotate_left
                    · simp only [Act.put, sA, sB, sC, i64_w, i32_w]
                      rfl
                    refine take_ (i := 8) (N := some 90) (v := ?_) (a' := ?_) #[Y, Y, Z, Z, Z, Z, Z, Z, Y, Y, Z, Z, Z, Z, Z, Z, Z, Z, Z, Z, Z, Z, Z, Z, Z, Z, Z, Z] rfl rfl (take_ofW HT_.out HW_.out (by kernel_rfl)) (fun _ _ _ h => h) (Or.inl ⟨by rfl, ?_⟩) hHeld ?_ ?_
                    rotate_left
                    · rintro w' ⟨s0, s1, s2, s3, s4, s5, s6, s7⟩
                      go_simp
                      with_reducible rfl
                    rotate_left
                    · simp only [Act.put, sA, sB, sC, i64_w, i32_w]
                      rfl
                    refine one_ (i := 2) (N := some 84) #[Y, Y, Y, Z, Z, Z, Z, Z, Y, Y, Z, Z, Z, Z, Z, Z, Z, Z, Z, Z, Z, Z, Z, Z, Z, Z, Z, Z] rfl rfl (one_of HT_.out (by kernel_rfl)) (by decide) (fun K hK => ?_)
                    refine goes_ Tryd.func14 (by kernel_rfl) rfl #[.agg #[.int .i64 t284, .int .i64 t285], .int .i64 x16_149] (by rfl) rfl rfl (by (try simp only [List.map_toArray, List.map_cons, List.map_nil]); first | done | rfl) ?_
                    with_reducible refine (congruence_Has.calls kj149 t284 t285 x16_149 true _ A166.out).mono ?_
                    rintro e w177 ⟨rfl, hb⟩
                    refine ⟨_, rfl, ?_⟩
                    have n0_ := Aside0.mk (blk_below (g := gb283) (o := .cells #[.int .u8 a3_0, .int .u8 a3_1, .int .u8 a3_2] 42 (0, 0)) BK283.out hb)
                    have n1_ := Aside0.mk (blk_below (g := gb290) (o := .cells #[.int .i64 t284, .int .i64 t285] 25 (0, 0)) BK290.out hb)
                    have n2_ := Aside0.mk (blk_below (g := gb291) (o := .cells #[.int .i64 t286, .int .i64 t287] 25 (0, 0)) BK291.out hb)
                    have n3_ := Aside0.mk (blk_below (g := gb292) (o := .cells #[.int .i64 t288, .int .i64 t289] 25 (0, 0)) BK292.out hb)
                    have n4_ := Aside0.mk (blk_below (g := gb297) (o := .cells #[.int .i64 t293, .int .i64 t294] 25 (0, 0)) BK297.out hb)
                    have n5_ := Aside0.mk (blk_below (g := gb298) (o := .cells #[.int .i64 t295, .int .i64 t296] 25 (0, 0)) BK298.out hb)
                    have n6_ := Aside0.mk (below_step (by repeat (first | (with_reducible first | exact HB.out | apply below_alloc | apply below_drew1 | refine below_set ?_ GE283.out | refine below_set ?_ GE290.out | refine below_set ?_ GE291.out | refine below_set ?_ GE292.out | refine below_set ?_ GE297.out | refine below_set ?_ GE298.out) | exact HB.out)) hb)
                    clear BK283
                    clear BK290
                    clear BK291
                    clear BK292
                    clear BK297
                    clear BK298
                    clear HB
                    have BK283 := n0_
                    have BK290 := n1_
                    have BK291 := n2_
                    have BK292 := n3_
                    have BK297 := n4_
                    have BK298 := n5_
                    have HB := n6_
                    clear n0_ n1_ n2_ n3_ n4_ n5_ n6_
                    (try clear hb)
                    (try clear hb2)
                    (try clear hk)
                    (try clear hi)
                    refine hK.out _ _ ⟨(blk_cell BK290.out 0).trans rfl, (blk_cell BK290.out 1).trans rfl, (blk_cell BK298.out 0).trans rfl, (blk_cell BK298.out 1).trans rfl, (blk_cell BK291.out 0).trans rfl, (blk_cell BK291.out 1).trans rfl, (blk_cell BK297.out 0).trans rfl, (blk_cell BK297.out 1).trans rfl⟩ (fun hHeld => ?_)
                    clear hK K
                    refine norm_ (a' := ?_) ?_ ?_
                    rotate_left
                    · show Act.put _ (some 84) _ = _
                      simp only [Act.put, sA, sB, sC, i64_w, i32_w]
                      rfl
                    refine pure_ (i := 3) (N := some 85) (v := ?_) (a' := ?_) #[Y, Y, Y, Y, Z, Z, Z, Z, Y, Y, Z, Z, Z, Z, Z, Z, Z, Z, Z, Z, Z, Z, Z, Z, Z, Z, Z, Z] rfl rfl (any_of HT_.out (by kernel_rfl)) (fun _ _ _ h => h) (Or.inl ⟨by rfl, ?_⟩) ?_ ?_
                    rotate_left
                    · intro w'
                      go_simp
                      with_reducible rfl
                    rotate_left
                    · simp only [Act.put, sA, sB, sC, i64_w, i32_w]
                      rfl
                    refine pure_ (i := 5) (N := some 87) (v := ?_) (a' := ?_) #[Y, Y, Y, Y, Z, Y, Z, Z, Y, Y, Z, Z, Z, Z, Z, Z, Z, Z, Z, Z, Z, Z, Z, Z, Z, Z, Z, Z] rfl rfl (any_of HT_.out (by kernel_rfl)) (fun _ _ _ h => h) (Or.inl ⟨by rfl, ?_⟩) ?_ ?_
                    rotate_left
                    · intro w'
                      go_simp
                      with_reducible rfl
                    rotate_left
                    · simp only [Act.put, sA, sB, sC, i64_w, i32_w]
                      rfl
                    refine take_ (i := 4) (N := some 86) (v := ?_) (a' := ?_) #[Y, Y, Y, Y, Y, Y, Z, Z, Y, Y, Z, Z, Z, Z, Z, Z, Z, Z, Z, Z, Z, Z, Z, Z, Z, Z, Z, Z] rfl rfl (take_ofW HT_.out HW_.out (by kernel_rfl)) (fun _ _ _ h => h) (Or.inl ⟨by rfl, ?_⟩) hHeld ?_ ?_
                    rotate_left
                    · rintro w' ⟨s0, s1, s2, s3, s4, s5, s6, s7⟩
                      go_simp
                      with_reducible rfl
                    rotate_left
                    · simp only [Act.put, sA, sB, sC, i64_w, i32_w]
                      rfl
                    refine one_ (i := 6) (N := some 88) #[Y, Y, Y, Y, Y, Y, Y, Z, Y, Y, Z, Z, Z, Z, Z, Z, Z, Z, Z, Z, Z, Z, Z, Z, Z, Z, Z, Z] rfl rfl (one_of HT_.out (by kernel_rfl)) (by decide) (fun K hK => ?_)
                    refine goes_ Tryd.func14 (by kernel_rfl) rfl #[.agg #[.int .i64 t286, .int .i64 t287], .int .i64 x16_149] (by rfl) rfl rfl (by (try simp only [List.map_toArray, List.map_cons, List.map_nil]); first | done | rfl) ?_
                    with_reducible refine (congruence_Has.calls kj149 t286 t287 x16_149 t308 _ A168.out).mono ?_
                    rintro e w178 ⟨rfl, hb⟩
                    refine ⟨_, rfl, ?_⟩
                    have n0_ := Aside0.mk (blk_below (g := gb283) (o := .cells #[.int .u8 a3_0, .int .u8 a3_1, .int .u8 a3_2] 42 (0, 0)) BK283.out hb)
                    have n1_ := Aside0.mk (blk_below (g := gb290) (o := .cells #[.int .i64 t284, .int .i64 t285] 25 (0, 0)) BK290.out hb)
                    have n2_ := Aside0.mk (blk_below (g := gb291) (o := .cells #[.int .i64 t286, .int .i64 t287] 25 (0, 0)) BK291.out hb)
                    have n3_ := Aside0.mk (blk_below (g := gb292) (o := .cells #[.int .i64 t288, .int .i64 t289] 25 (0, 0)) BK292.out hb)
                    have n4_ := Aside0.mk (blk_below (g := gb297) (o := .cells #[.int .i64 t293, .int .i64 t294] 25 (0, 0)) BK297.out hb)
                    have n5_ := Aside0.mk (blk_below (g := gb298) (o := .cells #[.int .i64 t295, .int .i64 t296] 25 (0, 0)) BK298.out hb)
                    have n6_ := Aside0.mk (below_step (by repeat (first | (with_reducible first | exact HB.out | apply below_alloc | apply below_drew1 | refine below_set ?_ GE283.out | refine below_set ?_ GE290.out | refine below_set ?_ GE291.out | refine below_set ?_ GE292.out | refine below_set ?_ GE297.out | refine below_set ?_ GE298.out) | exact HB.out)) hb)
                    clear BK283
                    clear BK290
                    clear BK291
                    clear BK292
                    clear BK297
                    clear BK298
                    clear HB
                    have BK283 := n0_
                    have BK290 := n1_
                    have BK291 := n2_
                    have BK292 := n3_
                    have BK297 := n4_
                    have BK298 := n5_
                    have HB := n6_
                    clear n0_ n1_ n2_ n3_ n4_ n5_ n6_
                    (try clear hb)
                    (try clear hb2)
                    (try clear hk)
                    (try clear hi)
                    refine hK.out _ _ ⟨(blk_cell BK290.out 0).trans rfl, (blk_cell BK290.out 1).trans rfl, (blk_cell BK298.out 0).trans rfl, (blk_cell BK298.out 1).trans rfl, (blk_cell BK291.out 0).trans rfl, (blk_cell BK291.out 1).trans rfl, (blk_cell BK297.out 0).trans rfl, (blk_cell BK297.out 1).trans rfl⟩ (fun hHeld => ?_)
                    clear hK K
                    refine norm_ (a' := ?_) ?_ ?_
                    rotate_left
                    · show Act.put _ (some 88) _ = _
                      simp only [Act.put, sA, sB, sC, i64_w, i32_w]
                      rfl
                    refine pure_ (i := 7) (N := some 89) (v := ?_) (a' := ?_) #[Y, Y, Y, Y, Y, Y, Y, Y, Y, Y, Z, Z, Z, Z, Z, Z, Z, Z, Z, Z, Z, Z, Z, Z, Z, Z, Z, Z] rfl rfl (any_of HT_.out (by kernel_rfl)) (fun _ _ _ h => h) (Or.inl ⟨by rfl, ?_⟩) ?_ ?_
                    rotate_left
                    · intro w'
                      go_simp
                      with_reducible rfl
                    rotate_left
                    · simp only [Act.put, sA, sB, sC, i64_w, i32_w]
                      rfl
                    refine one_ (i := 10) (N := some 92) #[Y, Y, Y, Y, Y, Y, Y, Y, Y, Y, Y, Z, Z, Z, Z, Z, Z, Z, Z, Z, Z, Z, Z, Z, Z, Z, Z, Z] rfl rfl (one_of HT_.out (by kernel_rfl)) (by decide) (fun K hK => ?_)
                    refine goes_ Tryd.func14 (by kernel_rfl) rfl #[.agg #[.int .i64 t295, .int .i64 t296], .int .i64 x16_149] (by rfl) rfl rfl (by (try simp only [List.map_toArray, List.map_cons, List.map_nil]); first | done | rfl) ?_
                    with_reducible refine (congruence_Has.calls kj149 t295 t296 x16_149 t309 _ A169.out).mono ?_
                    rintro e w179 ⟨rfl, hb⟩
                    refine ⟨_, rfl, ?_⟩
                    have n0_ := Aside0.mk (blk_below (g := gb283) (o := .cells #[.int .u8 a3_0, .int .u8 a3_1, .int .u8 a3_2] 42 (0, 0)) BK283.out hb)
                    have n1_ := Aside0.mk (blk_below (g := gb290) (o := .cells #[.int .i64 t284, .int .i64 t285] 25 (0, 0)) BK290.out hb)
                    have n2_ := Aside0.mk (blk_below (g := gb291) (o := .cells #[.int .i64 t286, .int .i64 t287] 25 (0, 0)) BK291.out hb)
                    have n3_ := Aside0.mk (blk_below (g := gb292) (o := .cells #[.int .i64 t288, .int .i64 t289] 25 (0, 0)) BK292.out hb)
                    have n4_ := Aside0.mk (blk_below (g := gb297) (o := .cells #[.int .i64 t293, .int .i64 t294] 25 (0, 0)) BK297.out hb)
                    have n5_ := Aside0.mk (blk_below (g := gb298) (o := .cells #[.int .i64 t295, .int .i64 t296] 25 (0, 0)) BK298.out hb)
                    have n6_ := Aside0.mk (below_step (by repeat (first | (with_reducible first | exact HB.out | apply below_alloc | apply below_drew1 | refine below_set ?_ GE283.out | refine below_set ?_ GE290.out | refine below_set ?_ GE291.out | refine below_set ?_ GE292.out | refine below_set ?_ GE297.out | refine below_set ?_ GE298.out) | exact HB.out)) hb)
                    clear BK283
                    clear BK290
                    clear BK291
                    clear BK292
                    clear BK297
                    clear BK298
                    clear HB
                    have BK283 := n0_
                    have BK290 := n1_
                    have BK291 := n2_
                    have BK292 := n3_
                    have BK297 := n4_
                    have BK298 := n5_
                    have HB := n6_
                    clear n0_ n1_ n2_ n3_ n4_ n5_ n6_
                    (try clear hb)
                    (try clear hb2)
                    (try clear hk)
                    (try clear hi)
                    refine hK.out _ _ ⟨(blk_cell BK290.out 0).trans rfl, (blk_cell BK290.out 1).trans rfl, (blk_cell BK298.out 0).trans rfl, (blk_cell BK298.out 1).trans rfl, (blk_cell BK291.out 0).trans rfl, (blk_cell BK291.out 1).trans rfl, (blk_cell BK297.out 0).trans rfl, (blk_cell BK297.out 1).trans rfl⟩ (fun hHeld => ?_)
                    clear hK K
                    refine norm_ (a' := ?_) ?_ ?_
                    rotate_left
                    · show Act.put _ (some 92) _ = _
                      simp only [Act.put, sA, sB, sC, i64_w, i32_w]
                      rfl
                    refine pure_ (i := 11) (N := some 93) (v := ?_) (a' := ?_) #[Y, Y, Y, Y, Y, Y, Y, Y, Y, Y, Y, Y, Z, Z, Z, Z, Z, Z, Z, Z, Z, Z, Z, Z, Z, Z, Z, Z] rfl rfl (any_of HT_.out (by kernel_rfl)) (fun _ _ _ h => h) (Or.inl ⟨by rfl, ?_⟩) ?_ ?_
                    rotate_left
                    · intro w'
                      go_simp
                      with_reducible rfl
                    rotate_left
                    · simp only [Act.put, sA, sB, sC, i64_w, i32_w]
                      rfl
                    refine pure_ (i := 12) (N := some 94) (v := ?_) (a' := ?_) #[Y, Y, Y, Y, Y, Y, Y, Y, Y, Y, Y, Y, Y, Z, Z, Z, Z, Z, Z, Z, Z, Z, Z, Z, Z, Z, Z, Z] rfl rfl (any_of HT_.out (by kernel_rfl)) (fun _ _ _ h => h) (Or.inl ⟨by rfl, ?_⟩) ?_ ?_
                    rotate_left
                    · intro w'
                      go_simp
                      with_reducible rfl
                    rotate_left
                    · simp only [Act.put, sA, sB, sC, i64_w, i32_w]
                      rfl
                    refine take_ (i := 13) (N := some 95) (v := ?_) (a' := ?_) #[Y, Y, Y, Y, Y, Y, Y, Y, Y, Y, Y, Y, Y, Y, Z, Z, Z, Z, Z, Z, Z, Z, Z, Z, Z, Z, Z, Z] rfl rfl (take_ofW HT_.out HW_.out (by kernel_rfl)) (fun _ _ _ h => h) (Or.inl ⟨by rfl, ?_⟩) hHeld ?_ ?_
                    rotate_left
                    · rintro w' ⟨s0, s1, s2, s3, s4, s5, s6, s7⟩
                      go_simp
                      with_reducible rfl
                    rotate_left
                    · simp only [Act.put, sA, sB, sC, i64_w, i32_w]
                      rfl
                    refine take_ (i := 14) (N := some 96) (v := ?_) (a' := ?_) #[Y, Y, Y, Y, Y, Y, Y, Y, Y, Y, Y, Y, Y, Y, Y, Z, Z, Z, Z, Z, Z, Z, Z, Z, Z, Z, Z, Z] rfl rfl (take_ofW HT_.out HW_.out (by kernel_rfl)) (fun _ _ _ h => h) (Or.inl ⟨by rfl, ?_⟩) hHeld ?_ ?_
                    rotate_left
                    · rintro w' ⟨s0, s1, s2, s3, s4, s5, s6, s7⟩
                      go_simp
                      with_reducible rfl
                    rotate_left
                    · simp only [Act.put, sA, sB, sC, i64_w, i32_w]
                      rfl
                    refine take_ (i := 16) (N := some 98) (v := ?_) (a' := ?_) #[Y, Y, Y, Y, Y, Y, Y, Y, Y, Y, Y, Y, Y, Y, Y, Z, Y, Z, Z, Z, Z, Z, Z, Z, Z, Z, Z, Z] rfl rfl (take_ofW HT_.out HW_.out (by kernel_rfl)) (fun _ _ _ h => h) (Or.inl ⟨by rfl, ?_⟩) hHeld ?_ ?_
                    rotate_left
                    · rintro w' ⟨s0, s1, s2, s3, s4, s5, s6, s7⟩
                      go_simp
                      with_reducible rfl
                    rotate_left
                    · simp only [Act.put, sA, sB, sC, i64_w, i32_w]
                      rfl
                    refine one_ (i := 15) (N := some 97) #[Y, Y, Y, Y, Y, Y, Y, Y, Y, Y, Y, Y, Y, Y, Y, Y, Y, Z, Z, Z, Z, Z, Z, Z, Z, Z, Z, Z] rfl rfl (one_of HT_.out (by kernel_rfl)) (by decide) (fun K hK => ?_)
                    refine goes_ Tryd.func22 (by kernel_rfl) rfl #[.agg #[.int .i64 t286, .int .i64 t287], .agg #[.int .i64 t284, .int .i64 t285]] (by rfl) rfl rfl (by (try simp only [List.map_toArray, List.map_cons, List.map_nil]); first | done | rfl) ?_
                    with_reducible refine (congruence_Join.calls kj149 t286 t287 t284 t285 t310 t311 _ A171.out (Go.Proofs.YtaphfmbloappkaaDoor.TabOK.below hT.out (by repeat (first | (with_reducible first | exact HB.out | apply below_alloc | apply below_drew1 | refine below_set ?_ GE283.out | refine below_set ?_ GE290.out | refine below_set ?_ GE291.out | refine below_set ?_ GE292.out | refine below_set ?_ GE297.out | refine below_set ?_ GE298.out) | exact HB.out)))).mono ?_
                    rintro e w180 ⟨rfl, hb⟩
                    refine ⟨_, rfl, ?_⟩
                    have n0_ := Aside0.mk (blk_below (g := gb283) (o := .cells #[.int .u8 a3_0, .int .u8 a3_1, .int .u8 a3_2] 42 (0, 0)) BK283.out hb)
                    have n1_ := Aside0.mk (blk_below (g := gb290) (o := .cells #[.int .i64 t284, .int .i64 t285] 25 (0, 0)) BK290.out hb)
                    have n2_ := Aside0.mk (blk_below (g := gb291) (o := .cells #[.int .i64 t286, .int .i64 t287] 25 (0, 0)) BK291.out hb)
                    have n3_ := Aside0.mk (blk_below (g := gb292) (o := .cells #[.int .i64 t288, .int .i64 t289] 25 (0, 0)) BK292.out hb)
                    have n4_ := Aside0.mk (blk_below (g := gb297) (o := .cells #[.int .i64 t293, .int .i64 t294] 25 (0, 0)) BK297.out hb)
                    have n5_ := Aside0.mk (blk_below (g := gb298) (o := .cells #[.int .i64 t295, .int .i64 t296] 25 (0, 0)) BK298.out hb)
                    have n6_ := Aside0.mk (below_step (by repeat (first | (with_reducible first | exact HB.out | apply below_alloc | apply below_drew1 | refine below_set ?_ GE283.out | refine below_set ?_ GE290.out | refine below_set ?_ GE291.out | refine below_set ?_ GE292.out | refine below_set ?_ GE297.out | refine below_set ?_ GE298.out) | exact HB.out)) hb)
                    clear BK283
                    clear BK290
                    clear BK291
                    clear BK292
                    clear BK297
                    clear BK298
                    clear HB
                    have BK283 := n0_
                    have BK290 := n1_
                    have BK291 := n2_
                    have BK292 := n3_
                    have BK297 := n4_
                    have BK298 := n5_
                    have HB := n6_
                    clear n0_ n1_ n2_ n3_ n4_ n5_ n6_
                    (try clear hb)
                    (try clear hb2)
                    (try clear hk)
                    (try clear hi)
                    refine hK.out _ _ ⟨(blk_cell BK290.out 0).trans rfl, (blk_cell BK290.out 1).trans rfl, (blk_cell BK298.out 0).trans rfl, (blk_cell BK298.out 1).trans rfl, (blk_cell BK291.out 0).trans rfl, (blk_cell BK291.out 1).trans rfl, (blk_cell BK297.out 0).trans rfl, (blk_cell BK297.out 1).trans rfl⟩ (fun hHeld => ?_)
                    clear hK K
                    refine norm_ (a' := ?_) ?_ ?_
                    rotate_left
                    · show Act.put _ (some 97) _ = _
                      simp only [Act.put, sA, sB, sC, i64_w, i32_w]
                      rfl
                    refine pure_ (i := 17) (N := some 99) (v := ?_) (a' := ?_) #[Y, Y, Y, Y, Y, Y, Y, Y, Y, Y, Y, Y, Y, Y, Y, Y, Y, Y, Z, Z, Z, Z, Z, Z, Z, Z, Z, Z] rfl rfl (any_of HT_.out (by kernel_rfl)) (fun _ _ _ h => h) (Or.inl ⟨by rfl, ?_⟩) ?_ ?_
                    rotate_left
                    · intro w'
                      go_simp
                      with_reducible rfl
                    rotate_left
                    · simp only [Act.put, sA, sB, sC, i64_w, i32_w]
                      rfl
                    refine pure_ (i := 18) (N := some 100) (v := ?_) (a' := ?_) #[Y, Y, Y, Y, Y, Y, Y, Y, Y, Y, Y, Y, Y, Y, Y, Y, Y, Y, Y, Z, Z, Z, Z, Z, Z, Z, Z, Z] rfl rfl (any_of HT_.out (by kernel_rfl)) (fun _ _ _ h => h) (Or.inl ⟨by rfl, ?_⟩) ?_ ?_
                    rotate_left
                    · intro w'
                      go_simp
                      with_reducible rfl
                    rotate_left
                    · simp only [Act.put, sA, sB, sC, i64_w, i32_w]
                      rfl
                    refine pure_ (i := 19) (N := some 101) (v := ?_) (a' := ?_) #[Y, Y, Y, Y, Y, Y, Y, Y, Y, Y, Y, Y, Y, Y, Y, Y, Y, Y, Y, Y, Z, Z, Z, Z, Z, Z, Z, Z] rfl rfl (any_of HT_.out (by kernel_rfl)) (fun _ _ _ h => h) (Or.inl ⟨by rfl, ?_⟩) ?_ ?_
                    rotate_left
                    · intro w'
                      go_simp
                      with_reducible rfl
                    rotate_left
                    · simp only [Act.put, sA, sB, sC, i64_w, i32_w]
                      rfl
                    refine take_ (i := 20) (N := some 102) (v := ?_) (a' := ?_) #[Y, Y, Y, Y, Y, Y, Y, Y, Y, Y, Y, Y, Y, Y, Y, Y, Y, Y, Y, Y, Y, Z, Z, Z, Z, Z, Z, Z] rfl rfl (take_ofW HT_.out HW_.out (by kernel_rfl)) (fun _ _ _ h => h) (Or.inl ⟨by rfl, ?_⟩) hHeld ?_ ?_
                    rotate_left
                    · rintro w' ⟨s0, s1, s2, s3, s4, s5, s6, s7⟩
                      go_simp
                      with_reducible rfl
                    rotate_left
                    · simp only [Act.put, sA, sB, sC, i64_w, i32_w]
                      rfl
                    refine take_ (i := 21) (N := some 103) (v := ?_) (a' := ?_) #[Y, Y, Y, Y, Y, Y, Y, Y, Y, Y, Y, Y, Y, Y, Y, Y, Y, Y, Y, Y, Y, Y, Z, Z, Z, Z, Z, Z] rfl rfl (take_ofW HT_.out HW_.out (by kernel_rfl)) (fun _ _ _ h => h) (Or.inl ⟨by rfl, ?_⟩) hHeld ?_ ?_
                    rotate_left
                    · rintro w' ⟨s0, s1, s2, s3, s4, s5, s6, s7⟩
                      go_simp
                      with_reducible rfl
                    rotate_left
                    · simp only [Act.put, sA, sB, sC, i64_w, i32_w]
                      rfl
                    refine one_ (i := 22) (N := some 104) #[Y, Y, Y, Y, Y, Y, Y, Y, Y, Y, Y, Y, Y, Y, Y, Y, Y, Y, Y, Y, Y, Y, Y, Z, Z, Z, Z, Z] rfl rfl (one_of HT_.out (by kernel_rfl)) (by decide) (fun K hK => ?_)
                    refine goes_ Tryd.func17 (by kernel_rfl) rfl #[.agg #[.int .i64 t284, .int .i64 t285], .agg #[.int .i64 t284, .int .i64 t285]] (by rfl) rfl rfl (by (try simp only [List.map_toArray, List.map_cons, List.map_nil]); first | done | rfl) ?_
                    with_reducible refine (congruence_Leq.calls kj149 t284 t285 t284 t285 true _ A173.out).mono ?_
                    rintro e w181 ⟨rfl, hb⟩
                    refine ⟨_, rfl, ?_⟩
                    have n0_ := Aside0.mk (blk_below (g := gb283) (o := .cells #[.int .u8 a3_0, .int .u8 a3_1, .int .u8 a3_2] 42 (0, 0)) BK283.out hb)
                    have n1_ := Aside0.mk (blk_below (g := gb290) (o := .cells #[.int .i64 t284, .int .i64 t285] 25 (0, 0)) BK290.out hb)
                    have n2_ := Aside0.mk (blk_below (g := gb291) (o := .cells #[.int .i64 t286, .int .i64 t287] 25 (0, 0)) BK291.out hb)
                    have n3_ := Aside0.mk (blk_below (g := gb292) (o := .cells #[.int .i64 t288, .int .i64 t289] 25 (0, 0)) BK292.out hb)
                    have n4_ := Aside0.mk (blk_below (g := gb297) (o := .cells #[.int .i64 t293, .int .i64 t294] 25 (0, 0)) BK297.out hb)
                    have n5_ := Aside0.mk (blk_below (g := gb298) (o := .cells #[.int .i64 t295, .int .i64 t296] 25 (0, 0)) BK298.out hb)
                    have n6_ := Aside0.mk (below_step (by repeat (first | (with_reducible first | exact HB.out | apply below_alloc | apply below_drew1 | refine below_set ?_ GE283.out | refine below_set ?_ GE290.out | refine below_set ?_ GE291.out | refine below_set ?_ GE292.out | refine below_set ?_ GE297.out | refine below_set ?_ GE298.out) | exact HB.out)) hb)
                    clear BK283
                    clear BK290
                    clear BK291
                    clear BK292
                    clear BK297
                    clear BK298
                    clear HB
                    have BK283 := n0_
                    have BK290 := n1_
                    have BK291 := n2_
                    have BK292 := n3_
                    have BK297 := n4_
                    have BK298 := n5_
                    have HB := n6_
                    clear n0_ n1_ n2_ n3_ n4_ n5_ n6_
                    (try clear hb)
                    (try clear hb2)
                    (try clear hk)
                    (try clear hi)
                    refine hK.out _ _ ⟨(blk_cell BK290.out 0).trans rfl, (blk_cell BK290.out 1).trans rfl, (blk_cell BK298.out 0).trans rfl, (blk_cell BK298.out 1).trans rfl, (blk_cell BK291.out 0).trans rfl, (blk_cell BK291.out 1).trans rfl, (blk_cell BK297.out 0).trans rfl, (blk_cell BK297.out 1).trans rfl⟩ (fun hHeld => ?_)
                    clear hK K
                    refine norm_ (a' := ?_) ?_ ?_
                    rotate_left
                    · show Act.put _ (some 104) _ = _
                      simp only [Act.put, sA, sB, sC, i64_w, i32_w]
                      rfl
                    refine pure_ (i := 23) (N := some 105) (v := ?_) (a' := ?_) #[Y, Y, Y, Y, Y, Y, Y, Y, Y, Y, Y, Y, Y, Y, Y, Y, Y, Y, Y, Y, Y, Y, Y, Y, Z, Z, Z, Z] rfl rfl (any_of HT_.out (by kernel_rfl)) (fun _ _ _ h => h) (Or.inl ⟨by rfl, ?_⟩) ?_ ?_
                    rotate_left
                    · intro w'
                      go_simp
                      with_reducible rfl
                    rotate_left
                    · simp only [Act.put, sA, sB, sC, i64_w, i32_w]
                      rfl
                    refine pure_ (i := 24) (N := some 106) (v := ?_) (a' := ?_) #[Y, Y, Y, Y, Y, Y, Y, Y, Y, Y, Y, Y, Y, Y, Y, Y, Y, Y, Y, Y, Y, Y, Y, Y, Y, Z, Z, Z] rfl rfl (any_of HT_.out (by kernel_rfl)) (fun _ _ _ h => h) (Or.inl ⟨by rfl, ?_⟩) ?_ ?_
                    rotate_left
                    · intro w'
                      go_simp
                      with_reducible rfl
                    rotate_left
                    · simp only [Act.put, sA, sB, sC, i64_w, i32_w]
                      rfl
                    refine one_ (i := 25) (N := some 107) #[Y, Y, Y, Y, Y, Y, Y, Y, Y, Y, Y, Y, Y, Y, Y, Y, Y, Y, Y, Y, Y, Y, Y, Y, Y, Y, Z, Z] rfl rfl (one_of HT_.out (by kernel_rfl)) (by decide) (fun K hK => ?_)
                    refine goes_ Tryd.func11 (by kernel_rfl) rfl #[] (by rfl) rfl rfl (by (try simp only [List.map_toArray, List.map_cons, List.map_nil]); first | done | rfl) ?_
                    with_reducible refine (timeboundlaw08_awake.calls kj149  t313 _ A175.out (Go.Proofs.YtaphfmbloappkaaDoor.TabOK.below hT.out (by repeat (first | (with_reducible first | exact HB.out | apply below_alloc | apply below_drew1 | refine below_set ?_ GE283.out | refine below_set ?_ GE290.out | refine below_set ?_ GE291.out | refine below_set ?_ GE292.out | refine below_set ?_ GE297.out | refine below_set ?_ GE298.out) | exact HB.out)))).mono ?_
                    rintro e w182 ⟨rfl, hb⟩
                    refine ⟨_, rfl, ?_⟩
                    have n0_ := Aside0.mk (blk_below (g := gb283) (o := .cells #[.int .u8 a3_0, .int .u8 a3_1, .int .u8 a3_2] 42 (0, 0)) BK283.out hb)
                    have n1_ := Aside0.mk (blk_below (g := gb290) (o := .cells #[.int .i64 t284, .int .i64 t285] 25 (0, 0)) BK290.out hb)
                    have n2_ := Aside0.mk (blk_below (g := gb291) (o := .cells #[.int .i64 t286, .int .i64 t287] 25 (0, 0)) BK291.out hb)
                    have n3_ := Aside0.mk (blk_below (g := gb292) (o := .cells #[.int .i64 t288, .int .i64 t289] 25 (0, 0)) BK292.out hb)
                    have n4_ := Aside0.mk (blk_below (g := gb297) (o := .cells #[.int .i64 t293, .int .i64 t294] 25 (0, 0)) BK297.out hb)
                    have n5_ := Aside0.mk (blk_below (g := gb298) (o := .cells #[.int .i64 t295, .int .i64 t296] 25 (0, 0)) BK298.out hb)
                    have n6_ := Aside0.mk (below_step (by repeat (first | (with_reducible first | exact HB.out | apply below_alloc | apply below_drew1 | refine below_set ?_ GE283.out | refine below_set ?_ GE290.out | refine below_set ?_ GE291.out | refine below_set ?_ GE292.out | refine below_set ?_ GE297.out | refine below_set ?_ GE298.out) | exact HB.out)) hb)
                    clear BK283
                    clear BK290
                    clear BK291
                    clear BK292
                    clear BK297
                    clear BK298
                    clear HB
                    have BK283 := n0_
                    have BK290 := n1_
                    have BK291 := n2_
                    have BK292 := n3_
                    have BK297 := n4_
                    have BK298 := n5_
                    have HB := n6_
                    clear n0_ n1_ n2_ n3_ n4_ n5_ n6_
                    (try clear hb)
                    (try clear hb2)
                    (try clear hk)
                    (try clear hi)
                    refine hK.out _ _ ⟨(blk_cell BK290.out 0).trans rfl, (blk_cell BK290.out 1).trans rfl, (blk_cell BK298.out 0).trans rfl, (blk_cell BK298.out 1).trans rfl, (blk_cell BK291.out 0).trans rfl, (blk_cell BK291.out 1).trans rfl, (blk_cell BK297.out 0).trans rfl, (blk_cell BK297.out 1).trans rfl⟩ (fun hHeld => ?_)
                    clear hK K
                    refine norm_ (a' := ?_) ?_ ?_
                    rotate_left
                    · show Act.put _ (some 107) _ = _
                      simp only [Act.put, sA, sB, sC, i64_w, i32_w]
                      rfl
                    refine pure_ (i := 26) (N := some 108) (v := ?_) (a' := ?_) #[Y, Y, Y, Y, Y, Y, Y, Y, Y, Y, Y, Y, Y, Y, Y, Y, Y, Y, Y, Y, Y, Y, Y, Y, Y, Y, Y, Z] rfl rfl (any_of HT_.out (by kernel_rfl)) (fun _ _ _ h => h) (Or.inl ⟨by rfl, ?_⟩) ?_ ?_
                    rotate_left
                    · intro w'
                      go_simp
                      with_reducible rfl
                    rotate_left
                    · simp only [Act.put, sA, sB, sC, i64_w, i32_w]
                      rfl
                    refine pure_ (i := 27) (N := some 10) (v := ?_) (a' := ?_) #[Y, Y, Y, Y, Y, Y, Y, Y, Y, Y, Y, Y, Y, Y, Y, Y, Y, Y, Y, Y, Y, Y, Y, Y, Y, Y, Y, Y] rfl rfl (any_of HT_.out (by kernel_rfl)) (fun _ _ _ h => h) (Or.inl ⟨by rfl, ?_⟩) ?_ ?_
                    rotate_left
                    · intro w'
                      go_simp
                      with_reducible rfl
                    rotate_left
                    · simp only [Act.put, sA, sB, sC, i64_w, i32_w]
                      rfl
                    refine done_ (done_of HT_.out (by kernel_rfl)) ?_
                    try go_wp2
                    go_ret
                    exact ⟨by first | rfl | (simp [errW_none, errW_some] <;> rfl) | (simp [*, errW_none, errW_some] <;> rfl), by repeat (first | (with_reducible first | exact HB.out | apply below_alloc | apply below_drew1 | refine below_set ?_ GE283.out | refine below_set ?_ GE290.out | refine below_set ?_ GE291.out | refine below_set ?_ GE292.out | refine below_set ?_ GE297.out | refine below_set ?_ GE298.out) | exact HB.out)⟩
                  · replace c174 := Bool.eq_false_iff.mpr c174
                    subst c174
                    have H1 : (none) = some r := by rw [if_neg (show ¬ (false = true) by decide)] at H; exact H
                    clear H
                    have H := H1
                    clear H1
                    exact absurd H (by simp)
                · rw [if_neg c172] at H
                  exact absurd H (by simp)
              · rw [if_neg c170] at H
                exact absurd H (by simp)
            · replace c167 := Bool.eq_false_iff.mpr c167
              subst c167
              have H1 : ((congruence_Has.f kj149 t295 t296 x16_149).bind fun t314 => (if (false == t314) = true then ((congruence_Join.f kj149 t286 t287 t284 t285).bind fun bt315 => (if (bt315.1 == t293 && (bt315.2 == t294)) = true then ((congruence_Leq.f kj149 t284 t285 t284 t285).bind fun t317 => (if t317 = true then ((timeboundlaw08_awake.f kj149).bind fun t318 => (some t318)) else (none))) else (none))) else (none))) = some r := by rw [if_neg (show ¬ (false = true) by decide)] at H; exact H
              clear H
              have H := H1
              clear H1
              replace H := Option.bind_eq_some_iff.mp H
              obtain ⟨t314, A1830, H⟩ := H
              replace H : (if (false == t314) = true then ((congruence_Join.f kj149 t286 t287 t284 t285).bind fun bt315 => (if (bt315.1 == t293 && (bt315.2 == t294)) = true then ((congruence_Leq.f kj149 t284 t285 t284 t285).bind fun t317 => (if t317 = true then ((timeboundlaw08_awake.f kj149).bind fun t318 => (some t318)) else (none))) else (none))) else (none)) = some r := H
              have A183 := Aside0.mk A1830
              clear A1830
              by_cases c184 : (false == t314) = true
              · rw [if_pos c184] at H
                have c184b0 : (false == t314) = true := c184
                (try (have c184b1 : decide (false = t314) = true := by simpa using c184))
                (try (have c184b2 : (false == t314) = true := by simpa using c184))
                clear c184
                replace H := Option.bind_eq_some_iff.mp H
                obtain ⟨⟨t315, t316⟩, A1850, H⟩ := H
                replace H : (if (t315 == t293 && (t316 == t294)) = true then ((congruence_Leq.f kj149 t284 t285 t284 t285).bind fun t317 => (if t317 = true then ((timeboundlaw08_awake.f kj149).bind fun t318 => (some t318)) else (none))) else (none)) = some r := H
                have A185 := Aside0.mk A1850
                clear A1850
                by_cases c186 : (t315 == t293 && (t316 == t294)) = true
                · rw [if_pos c186] at H
                  have c186b0 : (t315 == t293 && (t316 == t294)) = true := c186
                  (try (have c186b1 : decide (t315 = t293 && (t316 == t294)) = true := by simpa using c186))
                  (try (have c186b2 : (t315 == t293 && (t316 == t294)) = true := by simpa using c186))
                  clear c186
                  replace H := Option.bind_eq_some_iff.mp H
                  obtain ⟨t317, A1870, H⟩ := H
                  replace H : (if t317 = true then ((timeboundlaw08_awake.f kj149).bind fun t318 => (some t318)) else (none)) = some r := H
                  have A187 := Aside0.mk A1870
                  clear A1870
                  by_cases c188 : t317 = true
                  · subst c188
                    have H1 : ((timeboundlaw08_awake.f kj149).bind fun t318 => (some t318)) = some r := by rw [if_pos rfl] at H; exact H
                    clear H
                    have H := H1
                    clear H1
                    replace H := Option.bind_eq_some_iff.mp H
                    obtain ⟨t318, A1890, H⟩ := H
                    replace H : (some t318) = some r := H
                    have A189 := Aside0.mk A1890
                    clear A1890
                    obtain rfl := Option.some.inj H
                    try go_wp2
                    have n0_ := Aside0.mk (blk_drew BK283.out)
                    have n1_ := Aside0.mk (blk_drew BK290.out)
                    have n2_ := Aside0.mk (blk_drew BK291.out)
                    have n3_ := Aside0.mk (blk_drew BK292.out)
                    have n4_ := Aside0.mk (blk_drew BK297.out)
                    have n5_ := Aside0.mk (blk_drew BK298.out)
                    have n6_ := Aside0.mk (below_drew1 HB.out)
                    clear BK283
                    clear BK290
                    clear BK291
                    clear BK292
                    clear BK297
                    clear BK298
                    clear HB
                    have BK283 := n0_
                    have BK290 := n1_
                    have BK291 := n2_
                    have BK292 := n3_
                    have BK297 := n4_
                    have BK298 := n5_
                    have HB := n6_
                    clear n0_ n1_ n2_ n3_ n4_ n5_ n6_
                    refine start_ (n := 28) (S := fun w' => w'.cell? ⟨gb290, 0, none⟩ = some (.int .i64 t284) ∧ w'.cell? ⟨gb290, 1, none⟩ = some (.int .i64 t285) ∧ w'.cell? ⟨gb298, 0, none⟩ = some (.int .i64 t295) ∧ w'.cell? ⟨gb298, 1, none⟩ = some (.int .i64 t296) ∧ w'.cell? ⟨gb291, 0, none⟩ = some (.int .i64 t286) ∧ w'.cell? ⟨gb291, 1, none⟩ = some (.int .i64 t287) ∧ w'.cell? ⟨gb297, 0, none⟩ = some (.int .i64 t293) ∧ w'.cell? ⟨gb297, 1, none⟩ = some (.int .i64 t294)) (ds := []) #[Z, Z, Z, Z, Z, Z, Z, Z, Z, Z, Z, Z, Z, Z, Z, Z, Z, Z, Z, Z, Z, Z, Z, Z, Z, Z, Z, Z] (by kernel_rfl) rfl rfl ⟨(blk_cell BK290.out 0).trans rfl, (blk_cell BK290.out 1).trans rfl, (blk_cell BK298.out 0).trans rfl, (blk_cell BK298.out 1).trans rfl, (blk_cell BK291.out 0).trans rfl, (blk_cell BK291.out 1).trans rfl, (blk_cell BK297.out 0).trans rfl, (blk_cell BK297.out 1).trans rfl⟩ (fun hHeld => ?_); refine with_tabW timeboundlaw08_CongruenceLattice.tab8 timeboundlaw08_CongruenceLattice.bits8 (fun HT_ HW_ => ?_)
                    generalize wc.drew = w190 at BK283 BK290 BK291 BK292 BK297 BK298 HB hHeld ⊢
                    refine pure_ (i := 1) (N := some 83) (v := ?_) (a' := ?_) #[Z, Y, Z, Z, Z, Z, Z, Z, Z, Z, Z, Z, Z, Z, Z, Z, Z, Z, Z, Z, Z, Z, Z, Z, Z, Z, Z, Z] rfl rfl (any_of HT_.out (by kernel_rfl)) (fun _ _ _ h => h) (Or.inl ⟨by rfl, ?_⟩) ?_ ?_
                    rotate_left
                    · intro w'
                      go_simp
                      with_reducible rfl
                    rotate_left
                    · simp only [Act.put, sA, sB, sC, i64_w, i32_w]
                      rfl
                    refine pure_ (i := 9) (N := some 91) (v := ?_) (a' := ?_) #[Z, Y, Z, Z, Z, Z, Z, Z, Z, Y, Z, Z, Z, Z, Z, Z, Z, Z, Z, Z, Z, Z, Z, Z, Z, Z, Z, Z] rfl rfl (any_of HT_.out (by kernel_rfl)) (fun _ _ _ h => h) (Or.inl ⟨by rfl, ?_⟩) ?_ ?_
                    rotate_left
                    · intro w'
                      go_simp
                      with_reducible rfl
                    rotate_left
                    · simp only [Act.put, sA, sB, sC, i64_w, i32_w]
                      rfl
                    refine take_ (i := 0) (N := some 82) (v := ?_) (a' := ?_) #[Y, Y, Z, Z, Z, Z, Z, Z, Z, Y, Z, Z, Z, Z, Z, Z, Z, Z, Z, Z, Z, Z, Z, Z, Z, Z, Z, Z] rfl rfl (take_ofW HT_.out HW_.out (by kernel_rfl)) (fun _ _ _ h => h) (Or.inl ⟨by rfl, ?_⟩) hHeld ?_ ?_
                    rotate_left
                    · rintro w' ⟨s0, s1, s2, s3, s4, s5, s6, s7⟩
                      go_simp
                      with_reducible rfl
                    rotate_left
                    · simp only [Act.put, sA, sB, sC, i64_w, i32_w]
                      rfl
                    refine take_ (i := 8) (N := some 90) (v := ?_) (a' := ?_) #[Y, Y, Z, Z, Z, Z, Z, Z, Y, Y, Z, Z, Z, Z, Z, Z, Z, Z, Z, Z, Z, Z, Z, Z, Z, Z, Z, Z] rfl rfl (take_ofW HT_.out HW_.out (by kernel_rfl)) (fun _ _ _ h => h) (Or.inl ⟨by rfl, ?_⟩) hHeld ?_ ?_
                    rotate_left
                    · rintro w' ⟨s0, s1, s2, s3, s4, s5, s6, s7⟩
                      go_simp
                      with_reducible rfl
                    rotate_left
                    · simp only [Act.put, sA, sB, sC, i64_w, i32_w]
                      rfl
                    refine one_ (i := 2) (N := some 84) #[Y, Y, Y, Z, Z, Z, Z, Z, Y, Y, Z, Z, Z, Z, Z, Z, Z, Z, Z, Z, Z, Z, Z, Z, Z, Z, Z, Z] rfl rfl (one_of HT_.out (by kernel_rfl)) (by decide) (fun K hK => ?_)
                    refine goes_ Tryd.func14 (by kernel_rfl) rfl #[.agg #[.int .i64 t284, .int .i64 t285], .int .i64 x16_149] (by rfl) rfl rfl (by (try simp only [List.map_toArray, List.map_cons, List.map_nil]); first | done | rfl) ?_
                    with_reducible refine (congruence_Has.calls kj149 t284 t285 x16_149 false _ A166.out).mono ?_
                    rintro e w191 ⟨rfl, hb⟩
                    refine ⟨_, rfl, ?_⟩
                    have n0_ := Aside0.mk (blk_below (g := gb283) (o := .cells #[.int .u8 a3_0, .int .u8 a3_1, .int .u8 a3_2] 42 (0, 0)) BK283.out hb)
                    have n1_ := Aside0.mk (blk_below (g := gb290) (o := .cells #[.int .i64 t284, .int .i64 t285] 25 (0, 0)) BK290.out hb)
                    have n2_ := Aside0.mk (blk_below (g := gb291) (o := .cells #[.int .i64 t286, .int .i64 t287] 25 (0, 0)) BK291.out hb)
                    have n3_ := Aside0.mk (blk_below (g := gb292) (o := .cells #[.int .i64 t288, .int .i64 t289] 25 (0, 0)) BK292.out hb)
                    have n4_ := Aside0.mk (blk_below (g := gb297) (o := .cells #[.int .i64 t293, .int .i64 t294] 25 (0, 0)) BK297.out hb)
                    have n5_ := Aside0.mk (blk_below (g := gb298) (o := .cells #[.int .i64 t295, .int .i64 t296] 25 (0, 0)) BK298.out hb)
                    have n6_ := Aside0.mk (below_step (by repeat (first | (with_reducible first | exact HB.out | apply below_alloc | apply below_drew1 | refine below_set ?_ GE283.out | refine below_set ?_ GE290.out | refine below_set ?_ GE291.out | refine below_set ?_ GE292.out | refine below_set ?_ GE297.out | refine below_set ?_ GE298.out) | exact HB.out)) hb)
                    clear BK283
                    clear BK290
                    clear BK291
                    clear BK292
                    clear BK297
                    clear BK298
                    clear HB
                    have BK283 := n0_
                    have BK290 := n1_
                    have BK291 := n2_
                    have BK292 := n3_
                    have BK297 := n4_
                    have BK298 := n5_
                    have HB := n6_
                    clear n0_ n1_ n2_ n3_ n4_ n5_ n6_
                    (try clear hb)
                    (try clear hb2)
                    (try clear hk)
                    (try clear hi)
                    refine hK.out _ _ ⟨(blk_cell BK290.out 0).trans rfl, (blk_cell BK290.out 1).trans rfl, (blk_cell BK298.out 0).trans rfl, (blk_cell BK298.out 1).trans rfl, (blk_cell BK291.out 0).trans rfl, (blk_cell BK291.out 1).trans rfl, (blk_cell BK297.out 0).trans rfl, (blk_cell BK297.out 1).trans rfl⟩ (fun hHeld => ?_)
                    clear hK K
                    refine norm_ (a' := ?_) ?_ ?_
                    rotate_left
                    · show Act.put _ (some 84) _ = _
                      simp only [Act.put, sA, sB, sC, i64_w, i32_w]
                      rfl
                    refine pure_ (i := 3) (N := some 85) (v := ?_) (a' := ?_) #[Y, Y, Y, Y, Z, Z, Z, Z, Y, Y, Z, Z, Z, Z, Z, Z, Z, Z, Z, Z, Z, Z, Z, Z, Z, Z, Z, Z] rfl rfl (any_of HT_.out (by kernel_rfl)) (fun _ _ _ h => h) (Or.inl ⟨by rfl, ?_⟩) ?_ ?_
                    rotate_left
                    · intro w'
                      go_simp
                      with_reducible rfl
                    rotate_left
                    · simp only [Act.put, sA, sB, sC, i64_w, i32_w]
                      rfl
                    refine pure_ (i := 4) (N := some 86) (v := undef) (a' := ?_) #[Y, Y, Y, Y, Y, Z, Z, Z, Y, Y, Z, Z, Z, Z, Z, Z, Z, Z, Z, Z, Z, Z, Z, Z, Z, Z, Z, Z] rfl rfl (any_of HT_.out (by kernel_rfl)) (fun _ _ _ h => h) (Or.inr ⟨by rfl, rfl⟩) ?_ ?_
                    rotate_left
                    · simp only [Act.put, sA, sB, sC, i64_w, i32_w]
                      rfl
                    refine pure_ (i := 5) (N := some 87) (v := undef) (a' := ?_) #[Y, Y, Y, Y, Y, Y, Z, Z, Y, Y, Z, Z, Z, Z, Z, Z, Z, Z, Z, Z, Z, Z, Z, Z, Z, Z, Z, Z] rfl rfl (any_of HT_.out (by kernel_rfl)) (fun _ _ _ h => h) (Or.inr ⟨by rfl, rfl⟩) ?_ ?_
                    rotate_left
                    · simp only [Act.put, sA, sB, sC, i64_w, i32_w]
                      rfl
                    refine pure_ (i := 6) (N := some 88) (v := undef) (a' := ?_) #[Y, Y, Y, Y, Y, Y, Y, Z, Y, Y, Z, Z, Z, Z, Z, Z, Z, Z, Z, Z, Z, Z, Z, Z, Z, Z, Z, Z] rfl rfl (any_of HT_.out (by kernel_rfl)) (fun _ _ _ h => h) (Or.inr ⟨by rfl, rfl⟩) ?_ ?_
                    rotate_left
                    · simp only [Act.put, sA, sB, sC, i64_w, i32_w]
                      rfl
                    refine pure_ (i := 7) (N := some 89) (v := ?_) (a' := ?_) #[Y, Y, Y, Y, Y, Y, Y, Y, Y, Y, Z, Z, Z, Z, Z, Z, Z, Z, Z, Z, Z, Z, Z, Z, Z, Z, Z, Z] rfl rfl (any_of HT_.out (by kernel_rfl)) (fun _ _ _ h => h) (Or.inl ⟨by rfl, ?_⟩) ?_ ?_
                    rotate_left
                    · intro w'
                      go_simp
                      with_reducible rfl
                    rotate_left
                    · simp only [Act.put, sA, sB, sC, i64_w, i32_w]
                      rfl
                    refine one_ (i := 10) (N := some 92) #[Y, Y, Y, Y, Y, Y, Y, Y, Y, Y, Y, Z, Z, Z, Z, Z, Z, Z, Z, Z, Z, Z, Z, Z, Z, Z, Z, Z] rfl rfl (one_of HT_.out (by kernel_rfl)) (by decide) (fun K hK => ?_)
                    refine goes_ Tryd.func14 (by kernel_rfl) rfl #[.agg #[.int .i64 t295, .int .i64 t296], .int .i64 x16_149] (by rfl) rfl rfl (by (try simp only [List.map_toArray, List.map_cons, List.map_nil]); first | done | rfl) ?_
                    with_reducible refine (congruence_Has.calls kj149 t295 t296 x16_149 t314 _ A183.out).mono ?_
                    rintro e w192 ⟨rfl, hb⟩
                    refine ⟨_, rfl, ?_⟩
                    have n0_ := Aside0.mk (blk_below (g := gb283) (o := .cells #[.int .u8 a3_0, .int .u8 a3_1, .int .u8 a3_2] 42 (0, 0)) BK283.out hb)
                    have n1_ := Aside0.mk (blk_below (g := gb290) (o := .cells #[.int .i64 t284, .int .i64 t285] 25 (0, 0)) BK290.out hb)
                    have n2_ := Aside0.mk (blk_below (g := gb291) (o := .cells #[.int .i64 t286, .int .i64 t287] 25 (0, 0)) BK291.out hb)
                    have n3_ := Aside0.mk (blk_below (g := gb292) (o := .cells #[.int .i64 t288, .int .i64 t289] 25 (0, 0)) BK292.out hb)
                    have n4_ := Aside0.mk (blk_below (g := gb297) (o := .cells #[.int .i64 t293, .int .i64 t294] 25 (0, 0)) BK297.out hb)
                    have n5_ := Aside0.mk (blk_below (g := gb298) (o := .cells #[.int .i64 t295, .int .i64 t296] 25 (0, 0)) BK298.out hb)
                    have n6_ := Aside0.mk (below_step (by repeat (first | (with_reducible first | exact HB.out | apply below_alloc | apply below_drew1 | refine below_set ?_ GE283.out | refine below_set ?_ GE290.out | refine below_set ?_ GE291.out | refine below_set ?_ GE292.out | refine below_set ?_ GE297.out | refine below_set ?_ GE298.out) | exact HB.out)) hb)
                    clear BK283
                    clear BK290
                    clear BK291
                    clear BK292
                    clear BK297
                    clear BK298
                    clear HB
                    have BK283 := n0_
                    have BK290 := n1_
                    have BK291 := n2_
                    have BK292 := n3_
                    have BK297 := n4_
                    have BK298 := n5_
                    have HB := n6_
                    clear n0_ n1_ n2_ n3_ n4_ n5_ n6_
                    (try clear hb)
                    (try clear hb2)
                    (try clear hk)
                    (try clear hi)
                    refine hK.out _ _ ⟨(blk_cell BK290.out 0).trans rfl, (blk_cell BK290.out 1).trans rfl, (blk_cell BK298.out 0).trans rfl, (blk_cell BK298.out 1).trans rfl, (blk_cell BK291.out 0).trans rfl, (blk_cell BK291.out 1).trans rfl, (blk_cell BK297.out 0).trans rfl, (blk_cell BK297.out 1).trans rfl⟩ (fun hHeld => ?_)
                    clear hK K
                    refine norm_ (a' := ?_) ?_ ?_
                    rotate_left
                    · show Act.put _ (some 92) _ = _
                      simp only [Act.put, sA, sB, sC, i64_w, i32_w]
                      rfl
                    refine pure_ (i := 11) (N := some 93) (v := ?_) (a' := ?_) #[Y, Y, Y, Y, Y, Y, Y, Y, Y, Y, Y, Y, Z, Z, Z, Z, Z, Z, Z, Z, Z, Z, Z, Z, Z, Z, Z, Z] rfl rfl (any_of HT_.out (by kernel_rfl)) (fun _ _ _ h => h) (Or.inl ⟨by rfl, ?_⟩) ?_ ?_
                    rotate_left
                    · intro w'
                      go_simp
                      with_reducible rfl
                    rotate_left
                    · simp only [Act.put, sA, sB, sC, i64_w, i32_w]
                      rfl
                    refine pure_ (i := 12) (N := some 94) (v := ?_) (a' := ?_) #[Y, Y, Y, Y, Y, Y, Y, Y, Y, Y, Y, Y, Y, Z, Z, Z, Z, Z, Z, Z, Z, Z, Z, Z, Z, Z, Z, Z] rfl rfl (any_of HT_.out (by kernel_rfl)) (fun _ _ _ h => h) (Or.inl ⟨by rfl, ?_⟩) ?_ ?_
                    rotate_left
                    · intro w'
                      go_simp
                      with_reducible rfl
                    rotate_left
                    · simp only [Act.put, sA, sB, sC, i64_w, i32_w]
                      rfl
                    refine take_ (i := 13) (N := some 95) (v := ?_) (a' := ?_) #[Y, Y, Y, Y, Y, Y, Y, Y, Y, Y, Y, Y, Y, Y, Z, Z, Z, Z, Z, Z, Z, Z, Z, Z, Z, Z, Z, Z] rfl rfl (take_ofW HT_.out HW_.out (by kernel_rfl)) (fun _ _ _ h => h) (Or.inl ⟨by rfl, ?_⟩) hHeld ?_ ?_
                    rotate_left
                    · rintro w' ⟨s0, s1, s2, s3, s4, s5, s6, s7⟩
                      go_simp
                      with_reducible rfl
                    rotate_left
                    · simp only [Act.put, sA, sB, sC, i64_w, i32_w]
                      rfl
                    refine take_ (i := 14) (N := some 96) (v := ?_) (a' := ?_) #[Y, Y, Y, Y, Y, Y, Y, Y, Y, Y, Y, Y, Y, Y, Y, Z, Z, Z, Z, Z, Z, Z, Z, Z, Z, Z, Z, Z] rfl rfl (take_ofW HT_.out HW_.out (by kernel_rfl)) (fun _ _ _ h => h) (Or.inl ⟨by rfl, ?_⟩) hHeld ?_ ?_
                    rotate_left
                    · rintro w' ⟨s0, s1, s2, s3, s4, s5, s6, s7⟩
                      go_simp
                      with_reducible rfl
                    rotate_left
                    · simp only [Act.put, sA, sB, sC, i64_w, i32_w]
                      rfl
                    refine take_ (i := 16) (N := some 98) (v := ?_) (a' := ?_) #[Y, Y, Y, Y, Y, Y, Y, Y, Y, Y, Y, Y, Y, Y, Y, Z, Y, Z, Z, Z, Z, Z, Z, Z, Z, Z, Z, Z] rfl rfl (take_ofW HT_.out HW_.out (by kernel_rfl)) (fun _ _ _ h => h) (Or.inl ⟨by rfl, ?_⟩) hHeld ?_ ?_
                    rotate_left
                    · rintro w' ⟨s0, s1, s2, s3, s4, s5, s6, s7⟩
                      go_simp
                      with_reducible rfl
                    rotate_left
                    · simp only [Act.put, sA, sB, sC, i64_w, i32_w]
                      rfl
                    refine one_ (i := 15) (N := some 97) #[Y, Y, Y, Y, Y, Y, Y, Y, Y, Y, Y, Y, Y, Y, Y, Y, Y, Z, Z, Z, Z, Z, Z, Z, Z, Z, Z, Z] rfl rfl (one_of HT_.out (by kernel_rfl)) (by decide) (fun K hK => ?_)
                    refine goes_ Tryd.func22 (by kernel_rfl) rfl #[.agg #[.int .i64 t286, .int .i64 t287], .agg #[.int .i64 t284, .int .i64 t285]] (by rfl) rfl rfl (by (try simp only [List.map_toArray, List.map_cons, List.map_nil]); first | done | rfl) ?_
                    with_reducible refine (congruence_Join.calls kj149 t286 t287 t284 t285 t315 t316 _ A185.out (Go.Proofs.YtaphfmbloappkaaDoor.TabOK.below hT.out (by repeat (first | (with_reducible first | exact HB.out | apply below_alloc | apply below_drew1 | refine below_set ?_ GE283.out | refine below_set ?_ GE290.out | refine below_set ?_ GE291.out | refine below_set ?_ GE292.out | refine below_set ?_ GE297.out | refine below_set ?_ GE298.out) | exact HB.out)))).mono ?_
                    rintro e w193 ⟨rfl, hb⟩
                    refine ⟨_, rfl, ?_⟩
                    have n0_ := Aside0.mk (blk_below (g := gb283) (o := .cells #[.int .u8 a3_0, .int .u8 a3_1, .int .u8 a3_2] 42 (0, 0)) BK283.out hb)
                    have n1_ := Aside0.mk (blk_below (g := gb290) (o := .cells #[.int .i64 t284, .int .i64 t285] 25 (0, 0)) BK290.out hb)
                    have n2_ := Aside0.mk (blk_below (g := gb291) (o := .cells #[.int .i64 t286, .int .i64 t287] 25 (0, 0)) BK291.out hb)
                    have n3_ := Aside0.mk (blk_below (g := gb292) (o := .cells #[.int .i64 t288, .int .i64 t289] 25 (0, 0)) BK292.out hb)
                    have n4_ := Aside0.mk (blk_below (g := gb297) (o := .cells #[.int .i64 t293, .int .i64 t294] 25 (0, 0)) BK297.out hb)
                    have n5_ := Aside0.mk (blk_below (g := gb298) (o := .cells #[.int .i64 t295, .int .i64 t296] 25 (0, 0)) BK298.out hb)
                    have n6_ := Aside0.mk (below_step (by repeat (first | (with_reducible first | exact HB.out | apply below_alloc | apply below_drew1 | refine below_set ?_ GE283.out | refine below_set ?_ GE290.out | refine below_set ?_ GE291.out | refine below_set ?_ GE292.out | refine below_set ?_ GE297.out | refine below_set ?_ GE298.out) | exact HB.out)) hb)
                    clear BK283
                    clear BK290
                    clear BK291
                    clear BK292
                    clear BK297
                    clear BK298
                    clear HB
                    have BK283 := n0_
                    have BK290 := n1_
                    have BK291 := n2_
                    have BK292 := n3_
                    have BK297 := n4_
                    have BK298 := n5_
                    have HB := n6_
                    clear n0_ n1_ n2_ n3_ n4_ n5_ n6_
                    (try clear hb)
                    (try clear hb2)
                    (try clear hk)
                    (try clear hi)
                    refine hK.out _ _ ⟨(blk_cell BK290.out 0).trans rfl, (blk_cell BK290.out 1).trans rfl, (blk_cell BK298.out 0).trans rfl, (blk_cell BK298.out 1).trans rfl, (blk_cell BK291.out 0).trans rfl, (blk_cell BK291.out 1).trans rfl, (blk_cell BK297.out 0).trans rfl, (blk_cell BK297.out 1).trans rfl⟩ (fun hHeld => ?_)
                    clear hK K
                    refine norm_ (a' := ?_) ?_ ?_
                    rotate_left
                    · show Act.put _ (some 97) _ = _
                      simp only [Act.put, sA, sB, sC, i64_w, i32_w]
                      rfl
                    refine pure_ (i := 17) (N := some 99) (v := ?_) (a' := ?_) #[Y, Y, Y, Y, Y, Y, Y, Y, Y, Y, Y, Y, Y, Y, Y, Y, Y, Y, Z, Z, Z, Z, Z, Z, Z, Z, Z, Z] rfl rfl (any_of HT_.out (by kernel_rfl)) (fun _ _ _ h => h) (Or.inl ⟨by rfl, ?_⟩) ?_ ?_
                    rotate_left
                    · intro w'
                      go_simp
                      with_reducible rfl
                    rotate_left
                    · simp only [Act.put, sA, sB, sC, i64_w, i32_w]
                      rfl
                    refine pure_ (i := 18) (N := some 100) (v := ?_) (a' := ?_) #[Y, Y, Y, Y, Y, Y, Y, Y, Y, Y, Y, Y, Y, Y, Y, Y, Y, Y, Y, Z, Z, Z, Z, Z, Z, Z, Z, Z] rfl rfl (any_of HT_.out (by kernel_rfl)) (fun _ _ _ h => h) (Or.inl ⟨by rfl, ?_⟩) ?_ ?_
                    rotate_left
                    · intro w'
                      go_simp
                      with_reducible rfl
                    rotate_left
                    · simp only [Act.put, sA, sB, sC, i64_w, i32_w]
                      rfl
                    refine pure_ (i := 19) (N := some 101) (v := ?_) (a' := ?_) #[Y, Y, Y, Y, Y, Y, Y, Y, Y, Y, Y, Y, Y, Y, Y, Y, Y, Y, Y, Y, Z, Z, Z, Z, Z, Z, Z, Z] rfl rfl (any_of HT_.out (by kernel_rfl)) (fun _ _ _ h => h) (Or.inl ⟨by rfl, ?_⟩) ?_ ?_
                    rotate_left
                    · intro w'
                      go_simp
                      with_reducible rfl
                    rotate_left
                    · simp only [Act.put, sA, sB, sC, i64_w, i32_w]
                      rfl
                    refine take_ (i := 20) (N := some 102) (v := ?_) (a' := ?_) #[Y, Y, Y, Y, Y, Y, Y, Y, Y, Y, Y, Y, Y, Y, Y, Y, Y, Y, Y, Y, Y, Z, Z, Z, Z, Z, Z, Z] rfl rfl (take_ofW HT_.out HW_.out (by kernel_rfl)) (fun _ _ _ h => h) (Or.inl ⟨by rfl, ?_⟩) hHeld ?_ ?_
                    rotate_left
                    · rintro w' ⟨s0, s1, s2, s3, s4, s5, s6, s7⟩
                      go_simp
                      with_reducible rfl
                    rotate_left
                    · simp only [Act.put, sA, sB, sC, i64_w, i32_w]
                      rfl
                    refine take_ (i := 21) (N := some 103) (v := ?_) (a' := ?_) #[Y, Y, Y, Y, Y, Y, Y, Y, Y, Y, Y, Y, Y, Y, Y, Y, Y, Y, Y, Y, Y, Y, Z, Z, Z, Z, Z, Z] rfl rfl (take_ofW HT_.out HW_.out (by kernel_rfl)) (fun _ _ _ h => h) (Or.inl ⟨by rfl, ?_⟩) hHeld ?_ ?_
                    rotate_left
                    · rintro w' ⟨s0, s1, s2, s3, s4, s5, s6, s7⟩
                      go_simp
                      with_reducible rfl
                    rotate_left
                    · simp only [Act.put, sA, sB, sC, i64_w, i32_w]
                      rfl
                    refine one_ (i := 22) (N := some 104) #[Y, Y, Y, Y, Y, Y, Y, Y, Y, Y, Y, Y, Y, Y, Y, Y, Y, Y, Y, Y, Y, Y, Y, Z, Z, Z, Z, Z] rfl rfl (one_of HT_.out (by kernel_rfl)) (by decide) (fun K hK => ?_)
                    refine goes_ Tryd.func17 (by kernel_rfl) rfl #[.agg #[.int .i64 t284, .int .i64 t285], .agg #[.int .i64 t284, .int .i64 t285]] (by rfl) rfl rfl (by (try simp only [List.map_toArray, List.map_cons, List.map_nil]); first | done | rfl) ?_
                    with_reducible refine (congruence_Leq.calls kj149 t284 t285 t284 t285 true _ A187.out).mono ?_
                    rintro e w194 ⟨rfl, hb⟩
                    refine ⟨_, rfl, ?_⟩
                    have n0_ := Aside0.mk (blk_below (g := gb283) (o := .cells #[.int .u8 a3_0, .int .u8 a3_1, .int .u8 a3_2] 42 (0, 0)) BK283.out hb)
                    have n1_ := Aside0.mk (blk_below (g := gb290) (o := .cells #[.int .i64 t284, .int .i64 t285] 25 (0, 0)) BK290.out hb)
                    have n2_ := Aside0.mk (blk_below (g := gb291) (o := .cells #[.int .i64 t286, .int .i64 t287] 25 (0, 0)) BK291.out hb)
                    have n3_ := Aside0.mk (blk_below (g := gb292) (o := .cells #[.int .i64 t288, .int .i64 t289] 25 (0, 0)) BK292.out hb)
                    have n4_ := Aside0.mk (blk_below (g := gb297) (o := .cells #[.int .i64 t293, .int .i64 t294] 25 (0, 0)) BK297.out hb)
                    have n5_ := Aside0.mk (blk_below (g := gb298) (o := .cells #[.int .i64 t295, .int .i64 t296] 25 (0, 0)) BK298.out hb)
                    have n6_ := Aside0.mk (below_step (by repeat (first | (with_reducible first | exact HB.out | apply below_alloc | apply below_drew1 | refine below_set ?_ GE283.out | refine below_set ?_ GE290.out | refine below_set ?_ GE291.out | refine below_set ?_ GE292.out | refine below_set ?_ GE297.out | refine below_set ?_ GE298.out) | exact HB.out)) hb)
                    clear BK283
                    clear BK290
                    clear BK291
                    clear BK292
                    clear BK297
                    clear BK298
                    clear HB
                    have BK283 := n0_
                    have BK290 := n1_
                    have BK291 := n2_
                    have BK292 := n3_
                    have BK297 := n4_
                    have BK298 := n5_
                    have HB := n6_
                    clear n0_ n1_ n2_ n3_ n4_ n5_ n6_
                    (try clear hb)
                    (try clear hb2)
                    (try clear hk)
                    (try clear hi)
                    refine hK.out _ _ ⟨(blk_cell BK290.out 0).trans rfl, (blk_cell BK290.out 1).trans rfl, (blk_cell BK298.out 0).trans rfl, (blk_cell BK298.out 1).trans rfl, (blk_cell BK291.out 0).trans rfl, (blk_cell BK291.out 1).trans rfl, (blk_cell BK297.out 0).trans rfl, (blk_cell BK297.out 1).trans rfl⟩ (fun hHeld => ?_)
                    clear hK K
                    refine norm_ (a' := ?_) ?_ ?_
                    rotate_left
                    · show Act.put _ (some 104) _ = _
                      simp only [Act.put, sA, sB, sC, i64_w, i32_w]
                      rfl
                    refine pure_ (i := 23) (N := some 105) (v := ?_) (a' := ?_) #[Y, Y, Y, Y, Y, Y, Y, Y, Y, Y, Y, Y, Y, Y, Y, Y, Y, Y, Y, Y, Y, Y, Y, Y, Z, Z, Z, Z] rfl rfl (any_of HT_.out (by kernel_rfl)) (fun _ _ _ h => h) (Or.inl ⟨by rfl, ?_⟩) ?_ ?_
                    rotate_left
                    · intro w'
                      go_simp
                      with_reducible rfl
                    rotate_left
                    · simp only [Act.put, sA, sB, sC, i64_w, i32_w]
                      rfl
                    refine pure_ (i := 24) (N := some 106) (v := ?_) (a' := ?_) #[Y, Y, Y, Y, Y, Y, Y, Y, Y, Y, Y, Y, Y, Y, Y, Y, Y, Y, Y, Y, Y, Y, Y, Y, Y, Z, Z, Z] rfl rfl (any_of HT_.out (by kernel_rfl)) (fun _ _ _ h => h) (Or.inl ⟨by rfl, ?_⟩) ?_ ?_
                    rotate_left
                    · intro w'
                      go_simp
                      with_reducible rfl
                    rotate_left
                    · simp only [Act.put, sA, sB, sC, i64_w, i32_w]
                      rfl
                    refine one_ (i := 25) (N := some 107) #[Y, Y, Y, Y, Y, Y, Y, Y, Y, Y, Y, Y, Y, Y, Y, Y, Y, Y, Y, Y, Y, Y, Y, Y, Y, Y, Z, Z] rfl rfl (one_of HT_.out (by kernel_rfl)) (by decide) (fun K hK => ?_)
                    refine goes_ Tryd.func11 (by kernel_rfl) rfl #[] (by rfl) rfl rfl (by (try simp only [List.map_toArray, List.map_cons, List.map_nil]); first | done | rfl) ?_
                    with_reducible refine (timeboundlaw08_awake.calls kj149  t318 _ A189.out (Go.Proofs.YtaphfmbloappkaaDoor.TabOK.below hT.out (by repeat (first | (with_reducible first | exact HB.out | apply below_alloc | apply below_drew1 | refine below_set ?_ GE283.out | refine below_set ?_ GE290.out | refine below_set ?_ GE291.out | refine below_set ?_ GE292.out | refine below_set ?_ GE297.out | refine below_set ?_ GE298.out) | exact HB.out)))).mono ?_
                    rintro e w195 ⟨rfl, hb⟩
                    refine ⟨_, rfl, ?_⟩
                    have n0_ := Aside0.mk (blk_below (g := gb283) (o := .cells #[.int .u8 a3_0, .int .u8 a3_1, .int .u8 a3_2] 42 (0, 0)) BK283.out hb)
                    have n1_ := Aside0.mk (blk_below (g := gb290) (o := .cells #[.int .i64 t284, .int .i64 t285] 25 (0, 0)) BK290.out hb)
                    have n2_ := Aside0.mk (blk_below (g := gb291) (o := .cells #[.int .i64 t286, .int .i64 t287] 25 (0, 0)) BK291.out hb)
                    have n3_ := Aside0.mk (blk_below (g := gb292) (o := .cells #[.int .i64 t288, .int .i64 t289] 25 (0, 0)) BK292.out hb)
                    have n4_ := Aside0.mk (blk_below (g := gb297) (o := .cells #[.int .i64 t293, .int .i64 t294] 25 (0, 0)) BK297.out hb)
                    have n5_ := Aside0.mk (blk_below (g := gb298) (o := .cells #[.int .i64 t295, .int .i64 t296] 25 (0, 0)) BK298.out hb)
                    have n6_ := Aside0.mk (below_step (by repeat (first | (with_reducible first | exact HB.out | apply below_alloc | apply below_drew1 | refine below_set ?_ GE283.out | refine below_set ?_ GE290.out | refine below_set ?_ GE291.out | refine below_set ?_ GE292.out | refine below_set ?_ GE297.out | refine below_set ?_ GE298.out) | exact HB.out)) hb)
                    clear BK283
                    clear BK290
                    clear BK291
                    clear BK292
                    clear BK297
                    clear BK298
                    clear HB
                    have BK283 := n0_
                    have BK290 := n1_
                    have BK291 := n2_
                    have BK292 := n3_
                    have BK297 := n4_
                    have BK298 := n5_
                    have HB := n6_
                    clear n0_ n1_ n2_ n3_ n4_ n5_ n6_
                    (try clear hb)
                    (try clear hb2)
                    (try clear hk)
                    (try clear hi)
                    refine hK.out _ _ ⟨(blk_cell BK290.out 0).trans rfl, (blk_cell BK290.out 1).trans rfl, (blk_cell BK298.out 0).trans rfl, (blk_cell BK298.out 1).trans rfl, (blk_cell BK291.out 0).trans rfl, (blk_cell BK291.out 1).trans rfl, (blk_cell BK297.out 0).trans rfl, (blk_cell BK297.out 1).trans rfl⟩ (fun hHeld => ?_)
                    clear hK K
                    refine norm_ (a' := ?_) ?_ ?_
                    rotate_left
                    · show Act.put _ (some 107) _ = _
                      simp only [Act.put, sA, sB, sC, i64_w, i32_w]
                      rfl
                    refine pure_ (i := 26) (N := some 108) (v := ?_) (a' := ?_) #[Y, Y, Y, Y, Y, Y, Y, Y, Y, Y, Y, Y, Y, Y, Y, Y, Y, Y, Y, Y, Y, Y, Y, Y, Y, Y, Y, Z] rfl rfl (any_of HT_.out (by kernel_rfl)) (fun _ _ _ h => h) (Or.inl ⟨by rfl, ?_⟩) ?_ ?_
                    rotate_left
                    · intro w'
                      go_simp
                      with_reducible rfl
                    rotate_left
                    · simp only [Act.put, sA, sB, sC, i64_w, i32_w]
                      rfl
                    refine pure_ (i := 27) (N := some 10) (v := ?_) (a' := ?_) #[Y, Y, Y, Y, Y, Y, Y, Y, Y, Y, Y, Y, Y, Y, Y, Y, Y, Y, Y, Y, Y, Y, Y, Y, Y, Y, Y, Y] rfl rfl (any_of HT_.out (by kernel_rfl)) (fun _ _ _ h => h) (Or.inl ⟨by rfl, ?_⟩) ?_ ?_
                    rotate_left
                    · intro w'
                      go_simp
                      with_reducible rfl
                    rotate_left
                    · simp only [Act.put, sA, sB, sC, i64_w, i32_w]
                      rfl
                    refine done_ (done_of HT_.out (by kernel_rfl)) ?_
                    try go_wp2
                    go_ret
                    exact ⟨by first | rfl | (simp [errW_none, errW_some] <;> rfl) | (simp [*, errW_none, errW_some] <;> rfl), by repeat (first | (with_reducible first | exact HB.out | apply below_alloc | apply below_drew1 | refine below_set ?_ GE283.out | refine below_set ?_ GE290.out | refine below_set ?_ GE291.out | refine below_set ?_ GE292.out | refine below_set ?_ GE297.out | refine below_set ?_ GE298.out) | exact HB.out)⟩
                  · replace c188 := Bool.eq_false_iff.mpr c188
                    subst c188
                    have H1 : (none) = some r := by rw [if_neg (show ¬ (false = true) by decide)] at H; exact H
                    clear H
                    have H := H1
                    clear H1
                    exact absurd H (by simp)
                · rw [if_neg c186] at H
                  exact absurd H (by simp)
              · rw [if_neg c184] at H
                exact absurd H (by simp)

end Go.Proofs.YtaphfmbloappkaaDoorG.PAll
