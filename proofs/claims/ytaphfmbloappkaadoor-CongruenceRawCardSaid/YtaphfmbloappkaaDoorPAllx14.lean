-- The walks of some functions, printed by a program for this claim.
import Derived.Test.YtaphfmbloappkaaDoorPAllx0
import Derived.Test.YtaphfmbloappkaaDoorPAllx1
import Derived.Test.YtaphfmbloappkaaDoorPAllx11
import Derived.Test.YtaphfmbloappkaaDoorPAllx13
namespace Go.Proofs.YtaphfmbloappkaaDoorG.PAll
open Go.RowKit Go.Proofs.YtaphfmbloappkaaDoorW.PrintWords Go.Proofs.YtaphfmbloappkaaDoorW.PrintLast Go.Proofs.YtaphfmbloappkaaDoorW.PrintMore
attribute [local go_sem] max2_int min2_int max_two min_two max_three min_three max_four min_four   -- for this text's walks alone
set_option linter.unusedVariables false
set_option linter.unusedSimpArgs false
attribute [local go_sem high] eqA25
/-! ### timeboundref08_Do: function 32 -/
mutual
def timeboundref08_Do.j0 : Nat → Int → Bool → Int → Int → Int → Int → Option (Int × Int)
 | 0, _, _, _, _, _, _ => none
 | k + 1, x0, x26, x334000, x334001, x335000, x335001 => if x26 = true then ((timeboundref08_None.f).bind fun bt344 => (some (bt344.1, bt344.2))) else (if x334000 = 0 then (timeboundref08_Do.j1 k x0 (x335000 == 0) x334000 x334001 x335000 x335001) else (timeboundref08_Do.j1 k x0 false x334000 x334001 x335000 x335001))
def timeboundref08_Do.j1 : Nat → Int → Bool → Int → Int → Int → Int → Option (Int × Int)
 | 0, _, _, _, _, _, _ => none
 | k + 1, x0, x35, x334000, x334001, x335000, x335001 => if x35 = true then ((timeboundref01_Do.f x0 x334001 x335001).bind fun bt346 => (if bt346.2 = 0 then ((timeboundref08_Of.f bt346.1).bind fun bt348 => (some (bt348.1, bt348.2))) else ((timeboundref08_All.f).bind fun bt350 => (some (bt350.1, bt350.2))))) else ((timeboundref08_Bits.f k x334000 x334001).bind fun t352 => ((timeboundref08_Bits.f k x335000 x335001).bind fun t353 => (if x0 = 1 then (timeboundref08_Do.j2 k x0 (mn t352 t353) x0 (x0 == 1) x334000 x334001 x335000 x335001) else (if x0 = 2 then (timeboundref08_Do.j2 k x0 (mn t352 t353) x0 (x0 == 2) x334000 x334001 x335000 x335001) else (if x0 = 3 then (timeboundref08_Do.j2 k x0 (mn t352 t353) x0 (x0 == 3) x334000 x334001 x335000 x335001) else (if x0 = 6 then (timeboundref08_Do.j2 k x0 (mn t352 t353) x0 (x0 == 6) x334000 x334001 x335000 x335001) else (if x0 = 7 then (timeboundref08_Do.j2 k x0 (mn t352 t353) x0 (x0 == 7) x334000 x334001 x335000 x335001) else (timeboundref08_Do.j2 k x0 (mn t352 t353) x0 (x0 == 8) x334000 x334001 x335000 x335001))))))))
def timeboundref08_Do.j2 : Nat → Int → Int → Int → Bool → Int → Int → Int → Int → Option (Int × Int)
 | 0, _, _, _, _, _, _, _, _ => none
 | k + 1, x0, x9, x55, x56, x334000, x334001, x335000, x335001 => if x56 = true then ((timeboundref01_Do.f x0 x334001 x335001).bind fun bt354 => ((timeboundref08_low.f bt354.1 x9).bind fun bt356 => (some (bt356.1, bt356.2)))) else (if x55 = 9 then (if x335000 = 0 then ((timeboundref01_Do.f x0 x334001 (Go.bits .and .i64 x335001 31)).bind fun bt358 => ((timeboundref08_Bits.f k x334000 x334001).bind fun t360 => ((timeboundref08_low.f bt358.1 (wrap64 (t360 + (Go.bits .and .i64 x335001 31)))).bind fun bt361 => (some (bt361.1, bt361.2))))) else ((timeboundref08_All.f).bind fun bt363 => (some (bt363.1, bt363.2)))) else (if x55 = 13 then (timeboundref08_Do.j3 k x0 x9 (x55 == 13) x334000 x334001 x335000 x335001) else (timeboundref08_Do.j3 k x0 x9 (x55 == 14) x334000 x334001 x335000 x335001)))
def timeboundref08_Do.j3 : Nat → Int → Int → Bool → Int → Int → Int → Int → Option (Int × Int)
 | 0, _, _, _, _, _, _, _ => none
 | k + 1, x0, x9, x97, x334000, x334001, x335000, x335001 => if x97 = true then (if 0 ≤ (IntKind.u64.wrap (x9)) then (if (shl .i64 1 (IntKind.u64.wrap (x9))) = 0 then (none) else (if (Int.tmod (wrap64 (x334001 - x335001)) (shl .i64 1 (IntKind.u64.wrap (x9)))) = 0 then ((timeboundref08_All.f).bind fun bt365 => (some (bt365.1, bt365.2))) else (if x0 = 13 then ((timeboundref08_Of.f 0).bind fun bt367 => (some (bt367.1, bt367.2))) else ((timeboundref08_Of.f 1).bind fun bt369 => (some (bt369.1, bt369.2)))))) else (none)) else ((timeboundref08_All.f).bind fun bt371 => (some (bt371.1, bt371.2)))
end
def timeboundref08_Do.f (k : Nat) (a0 : Int) (a1_0 : Int) (a1_1 : Int) (a2_0 : Int) (a2_1 : Int) : Option (Int × Int) := (timeboundref08_Form.f k a1_0 a1_1).bind fun bt336 => ((timeboundref08_Form.f k a2_0 a2_1).bind fun bt338 => ((timeboundref08_None.f).bind fun bt340 => (if (bt336.1 == bt340.1 && (bt336.2 == bt340.2)) = true then (timeboundref08_Do.j0 k a0 true bt336.1 bt336.2 bt338.1 bt338.2) else ((timeboundref08_None.f).bind fun bt342 => (timeboundref08_Do.j0 k a0 (bt338.1 == bt342.1 && (bt338.2 == bt342.2)) bt336.1 bt336.2 bt338.1 bt338.2)))))
theorem timeboundref08_Do.mono_l : ∀ k, (∀ y0 y1 y2 y3 y4 y5, LeO (timeboundref08_Do.j0 k y0 y1 y2 y3 y4 y5) (timeboundref08_Do.j0 (k + 1) y0 y1 y2 y3 y4 y5)) ∧ (∀ y0 y1 y2 y3 y4 y5, LeO (timeboundref08_Do.j1 k y0 y1 y2 y3 y4 y5) (timeboundref08_Do.j1 (k + 1) y0 y1 y2 y3 y4 y5)) ∧ (∀ y0 y1 y2 y3 y4 y5 y6 y7, LeO (timeboundref08_Do.j2 k y0 y1 y2 y3 y4 y5 y6 y7) (timeboundref08_Do.j2 (k + 1) y0 y1 y2 y3 y4 y5 y6 y7)) ∧ (∀ y0 y1 y2 y3 y4 y5 y6, LeO (timeboundref08_Do.j3 k y0 y1 y2 y3 y4 y5 y6) (timeboundref08_Do.j3 (k + 1) y0 y1 y2 y3 y4 y5 y6))
 | 0 => ⟨fun _ _ _ _ _ _ r h => by simp [timeboundref08_Do.j0] at h, fun _ _ _ _ _ _ r h => by simp [timeboundref08_Do.j1] at h, fun _ _ _ _ _ _ _ _ r h => by simp [timeboundref08_Do.j2] at h, fun _ _ _ _ _ _ _ r h => by simp [timeboundref08_Do.j3] at h⟩
 | k + 1 => by
  obtain ⟨ih0, ih1, ih2, ih3⟩ := timeboundref08_Do.mono_l k
  refine ⟨?_, ?_, ?_, ?_⟩
  · intro y0 y1 y2 y3 y4 y5
    unfold timeboundref08_Do.j0
    repeat' first
    | (with_reducible exact ih0 _ _ _ _ _ _)
    | (with_reducible exact ih1 _ _ _ _ _ _)
    | (with_reducible exact ih2 _ _ _ _ _ _ _ _)
    | (with_reducible exact ih3 _ _ _ _ _ _ _)
    | (with_reducible exact timeboundref08_Bits.mono _ _ _)
    | (with_reducible exact timeboundref08_Form.mono _ _ _)
    | (with_reducible exact LeO.refl _)
    | (with_reducible exact LeO.none _)
    | (with_reducible refine LeO.ite ?_ ?_)
    | (with_reducible refine LeO.bind ?_ (fun _ => ?_))
    | exact ih0 _ _ _ _ _ _
    | exact ih1 _ _ _ _ _ _
    | exact ih2 _ _ _ _ _ _ _ _
    | exact ih3 _ _ _ _ _ _ _
    | exact timeboundref08_Bits.mono _ _ _
    | exact timeboundref08_Form.mono _ _ _
    | exact LeO.none _
    | refine LeO.ite ?_ ?_
    | refine LeO.bind ?_ (fun _ => ?_)
  · intro y0 y1 y2 y3 y4 y5
    unfold timeboundref08_Do.j1
    repeat' first
    | (with_reducible exact ih0 _ _ _ _ _ _)
    | (with_reducible exact ih1 _ _ _ _ _ _)
    | (with_reducible exact ih2 _ _ _ _ _ _ _ _)
    | (with_reducible exact ih3 _ _ _ _ _ _ _)
    | (with_reducible exact timeboundref08_Bits.mono _ _ _)
    | (with_reducible exact timeboundref08_Form.mono _ _ _)
    | (with_reducible exact LeO.refl _)
    | (with_reducible exact LeO.none _)
    | (with_reducible refine LeO.ite ?_ ?_)
    | (with_reducible refine LeO.bind ?_ (fun _ => ?_))
    | exact ih0 _ _ _ _ _ _
    | exact ih1 _ _ _ _ _ _
    | exact ih2 _ _ _ _ _ _ _ _
    | exact ih3 _ _ _ _ _ _ _
    | exact timeboundref08_Bits.mono _ _ _
    | exact timeboundref08_Form.mono _ _ _
    | exact LeO.none _
    | refine LeO.ite ?_ ?_
    | refine LeO.bind ?_ (fun _ => ?_)
  · intro y0 y1 y2 y3 y4 y5 y6 y7
    unfold timeboundref08_Do.j2
    repeat' first
    | (with_reducible exact ih0 _ _ _ _ _ _)
    | (with_reducible exact ih1 _ _ _ _ _ _)
    | (with_reducible exact ih2 _ _ _ _ _ _ _ _)
    | (with_reducible exact ih3 _ _ _ _ _ _ _)
    | (with_reducible exact timeboundref08_Bits.mono _ _ _)
    | (with_reducible exact timeboundref08_Form.mono _ _ _)
    | (with_reducible exact LeO.refl _)
    | (with_reducible exact LeO.none _)
    | (with_reducible refine LeO.ite ?_ ?_)
    | (with_reducible refine LeO.bind ?_ (fun _ => ?_))
    | exact ih0 _ _ _ _ _ _
    | exact ih1 _ _ _ _ _ _
    | exact ih2 _ _ _ _ _ _ _ _
    | exact ih3 _ _ _ _ _ _ _
    | exact timeboundref08_Bits.mono _ _ _
    | exact timeboundref08_Form.mono _ _ _
    | exact LeO.none _
    | refine LeO.ite ?_ ?_
    | refine LeO.bind ?_ (fun _ => ?_)
  · intro y0 y1 y2 y3 y4 y5 y6
    unfold timeboundref08_Do.j3
    repeat' first
    | (with_reducible exact ih0 _ _ _ _ _ _)
    | (with_reducible exact ih1 _ _ _ _ _ _)
    | (with_reducible exact ih2 _ _ _ _ _ _ _ _)
    | (with_reducible exact ih3 _ _ _ _ _ _ _)
    | (with_reducible exact timeboundref08_Bits.mono _ _ _)
    | (with_reducible exact timeboundref08_Form.mono _ _ _)
    | (with_reducible exact LeO.refl _)
    | (with_reducible exact LeO.none _)
    | (with_reducible refine LeO.ite ?_ ?_)
    | (with_reducible refine LeO.bind ?_ (fun _ => ?_))
    | exact ih0 _ _ _ _ _ _
    | exact ih1 _ _ _ _ _ _
    | exact ih2 _ _ _ _ _ _ _ _
    | exact ih3 _ _ _ _ _ _ _
    | exact timeboundref08_Bits.mono _ _ _
    | exact timeboundref08_Form.mono _ _ _
    | exact LeO.none _
    | refine LeO.ite ?_ ?_
    | refine LeO.bind ?_ (fun _ => ?_)
theorem timeboundref08_Do.mono : ∀ a0 a1 a2 a3 a4 k, LeO (timeboundref08_Do.f k a0 a1 a2 a3 a4) (timeboundref08_Do.f (k + 1) a0 a1 a2 a3 a4) := by
 intro a0 a1 a2 a3 a4 k
 obtain ⟨ih0, ih1, ih2, ih3⟩ := timeboundref08_Do.mono_l k
 unfold timeboundref08_Do.f
 repeat' first
  | (with_reducible exact ih0 _ _ _ _ _ _)
  | (with_reducible exact ih1 _ _ _ _ _ _)
  | (with_reducible exact ih2 _ _ _ _ _ _ _ _)
  | (with_reducible exact ih3 _ _ _ _ _ _ _)
  | (with_reducible exact timeboundref08_Bits.mono _ _ _)
  | (with_reducible exact timeboundref08_Form.mono _ _ _)
  | (with_reducible exact LeO.refl _)
  | (with_reducible exact LeO.none _)
  | (with_reducible refine LeO.ite ?_ ?_)
  | (with_reducible refine LeO.bind ?_ (fun _ => ?_))
  | exact ih0 _ _ _ _ _ _
  | exact ih1 _ _ _ _ _ _
  | exact ih2 _ _ _ _ _ _ _ _
  | exact ih3 _ _ _ _ _ _ _
  | exact timeboundref08_Bits.mono _ _ _
  | exact timeboundref08_Form.mono _ _ _
  | exact LeO.none _
  | refine LeO.ite ?_ ?_
  | refine LeO.bind ?_ (fun _ => ?_)
def timeboundref08_Do.T2 : Bool × List (List Nat × List Nat) := (true, [([], []), ([], []), ([0, 1], [0, 1]), ([2, 1], [2]), ([3], [3]), ([3, 3], [3]), ([4, 5, 3], [3, 4, 5]), ([3, 6], [3, 6])])
def timeboundref08_Do.B2 : List Nat := [0, 0, 3, 7, 15, 15, 63, 127]
theorem timeboundref08_Do.tab2 : rtab .any (opsOf Tryd.f32 2) = timeboundref08_Do.T2 := by kernel_rfl
theorem timeboundref08_Do.bits2 : waitsOk timeboundref08_Do.T2.2 timeboundref08_Do.B2 = true := by kernel_rfl
set_option maxHeartbeats 80000000 in
set_option maxRecDepth 100000 in
theorem timeboundref08_Do.calls (k : Nat) (a0 : Int) (a1_0 : Int) (a1_1 : Int) (a2_0 : Int) (a2_1 : Int) (r1 : Int) (r2 : Int) (w : World) (h : timeboundref08_Do.f k a0 a1_0 a1_1 a2_0 a2_1 = some (r1, r2)) :
 Calls Tryd.prog 32 #[.int .i64 a0, .agg #[.int .i64 a1_0, .int .i64 a1_1], .agg #[.int .i64 a2_0, .int .i64 a2_1]] w fun e w' => e = .returned (.agg #[.int .i64 r1, .int .i64 r2]) ∧ Below w.heap.size w w' := by
 have hu25 := Tryd.underlying25
 have HB := aK (Below.refl w.heap.size w)
 have H : ((timeboundref08_Form.f k a1_0 a1_1).bind fun bt336 => ((timeboundref08_Form.f k a2_0 a2_1).bind fun bt338 => ((timeboundref08_None.f).bind fun bt340 => (if (bt336.1 == bt340.1 && (bt336.2 == bt340.2)) = true then (timeboundref08_Do.j0 k a0 true bt336.1 bt336.2 bt338.1 bt338.2) else ((timeboundref08_None.f).bind fun bt342 => (timeboundref08_Do.j0 k a0 (bt338.1 == bt342.1 && (bt338.2 == bt342.2)) bt336.1 bt336.2 bt338.1 bt338.2)))))) = some (r1, r2) := h
 clear h
 replace H := Option.bind_eq_some_iff.mp H
 obtain ⟨⟨t336, t337⟩, A40, H⟩ := H
 replace H : ((timeboundref08_Form.f k a2_0 a2_1).bind fun bt338 => ((timeboundref08_None.f).bind fun bt340 => (if (t336 == bt340.1 && (t337 == bt340.2)) = true then (timeboundref08_Do.j0 k a0 true t336 t337 bt338.1 bt338.2) else ((timeboundref08_None.f).bind fun bt342 => (timeboundref08_Do.j0 k a0 (bt338.1 == bt342.1 && (bt338.2 == bt342.2)) t336 t337 bt338.1 bt338.2))))) = some (r1, r2) := H
 have A4 := aK A40
 clear A40
 replace H := Option.bind_eq_some_iff.mp H
 obtain ⟨⟨t338, t339⟩, A50, H⟩ := H
 replace H : ((timeboundref08_None.f).bind fun bt340 => (if (t336 == bt340.1 && (t337 == bt340.2)) = true then (timeboundref08_Do.j0 k a0 true t336 t337 t338 t339) else ((timeboundref08_None.f).bind fun bt342 => (timeboundref08_Do.j0 k a0 (t338 == bt342.1 && (t339 == bt342.2)) t336 t337 t338 t339)))) = some (r1, r2) := H
 have A5 := aK A50
 clear A50
 have HC6 := aK H
 clear H
 go_enter Tryd.func32, Tryd.ntmps32
 try go_wp2_with (first | ((with_reducible refine gate_dst (N := 4) rfl ?_); refine box_event ?hg (N := 4) ?hd (cs := #[.int .i64 a1_0, .int .i64 a1_1]) (t := 25) ?hr ?_; (case hd => rfl); (case hg => rfl); (case hr => first | (go_simp; done) | (go_simp; rfl)); intro gb333 hg w7 hbox hb; have n0_ := aK (below_step (by repeat (first | (with_reducible first | exact HB.out | apply hA | apply hN | apply hD) | exact HB.out)) hb); have n1_ := aK (hbox); have n2_ := aK ((by rw [hg]; exact (below_size (by repeat (first | (with_reducible first | exact HB.out | apply hA | apply hN | apply hD) | exact HB.out))) : w.heap.size ≤ gb333)); have n3_ := aK ((by rw [hg]; exact (below_size (by repeat (first | (with_reducible first | exact HB.out | apply hA | apply hN | apply hD) | exact HB.out))) : w.heap.size ≤ gb333)); clear HB; have HB := n0_; have BK333 := n1_; have GW333 := n2_; have GE333 := n3_; clear n0_ n1_ n2_ n3_; clear hb hbox hg) | ((with_reducible refine gate_dst (N := 5) rfl ?_); refine box_event ?hg (N := 5) ?hd (cs := #[.int .i64 a2_0, .int .i64 a2_1]) (t := 25) ?hr ?_; (case hd => rfl); (case hg => rfl); (case hr => first | (go_simp; done) | (go_simp; rfl)); intro gb334 hg w8 hbox hb; have n0_ := aK (blk_below (g := gb333) (o := .cells #[.int .i64 a1_0, .int .i64 a1_1] 25 (0, 0)) (by (with_reducible repeat (first | refine bR ?_ | refine bA ?_ _)); exact BK333.out) hb); have n1_ := aK (below_step (by repeat (first | (with_reducible first | exact HB.out | apply hA | apply hN | apply hD | refine below_set ?_ GE333.out) | exact HB.out)) hb); have n2_ := aK (hbox); have n3_ := aK ((by rw [hg]; exact (below_size (by repeat (first | (with_reducible first | exact HB.out | apply hA | apply hN | apply hD | refine below_set ?_ GE333.out) | exact HB.out))) : w.heap.size ≤ gb334)); have n4_ := aK ((by rw [hg]; exact (below_size (by repeat (first | (with_reducible first | exact HB.out | apply hA | apply hN | apply hD | refine below_set ?_ GE333.out) | exact HB.out))) : w.heap.size ≤ gb334)); have n5_ := aK ((by rw [hg]; exact Nat.ne_of_lt (blk_lt (g := gb333) (o := .cells #[.int .i64 a1_0, .int .i64 a1_1] 25 (0, 0)) (by (with_reducible repeat (first | refine bR ?_ | refine bA ?_ _)); exact BK333.out)) : gb333 ≠ gb334)); have n6_ := aK ((by rw [hg]; exact Nat.ne_of_gt (blk_lt (g := gb333) (o := .cells #[.int .i64 a1_0, .int .i64 a1_1] 25 (0, 0)) (by (with_reducible repeat (first | refine bR ?_ | refine bA ?_ _)); exact BK333.out)) : gb334 ≠ gb333)); clear BK333; clear HB; have BK333 := n0_; have HB := n1_; have BK334 := n2_; have GW334 := n3_; have GE334 := n4_; have NB333_334 := n5_; have NB334_333 := n6_; clear n0_ n1_ n2_ n3_ n4_ n5_ n6_; clear hb hbox hg) | ((with_reducible refine gate_dst (N := 6) rfl ?_); refine box_event ?hg (N := 6) ?hd (cs := #[.int .i64 0, .int .i64 0]) (t := 25) ?hr ?_; (case hd => rfl); (case hg => rfl); (case hr => first | (go_simp; done) | (go_simp; rfl)); intro gb335 hg w9 hbox hb; have n0_ := aK (blk_below (g := gb333) (o := .cells #[.int .i64 a1_0, .int .i64 a1_1] 25 (0, 0)) (by (with_reducible repeat (first | refine bR ?_ | refine bA ?_ _)); exact BK333.out) hb); have n1_ := aK (blk_below (g := gb334) (o := .cells #[.int .i64 a2_0, .int .i64 a2_1] 25 (0, 0)) (by (with_reducible repeat (first | refine bR ?_ | refine bA ?_ _)); exact BK334.out) hb); have n2_ := aK (below_step (by repeat (first | (with_reducible first | exact HB.out | apply hA | apply hN | apply hD | refine below_set ?_ GE333.out | refine below_set ?_ GE334.out) | exact HB.out)) hb); have n3_ := aK (hbox); have n4_ := aK ((by rw [hg]; exact (below_size (by repeat (first | (with_reducible first | exact HB.out | apply hA | apply hN | apply hD | refine below_set ?_ GE333.out | refine below_set ?_ GE334.out) | exact HB.out))) : w.heap.size ≤ gb335)); have n5_ := aK ((by rw [hg]; exact (below_size (by repeat (first | (with_reducible first | exact HB.out | apply hA | apply hN | apply hD | refine below_set ?_ GE333.out | refine below_set ?_ GE334.out) | exact HB.out))) : w.heap.size ≤ gb335)); have n6_ := aK ((by rw [hg]; exact Nat.ne_of_lt (blk_lt (g := gb333) (o := .cells #[.int .i64 a1_0, .int .i64 a1_1] 25 (0, 0)) (by (with_reducible repeat (first | refine bR ?_ | refine bA ?_ _)); exact BK333.out)) : gb333 ≠ gb335)); have n7_ := aK ((by rw [hg]; exact Nat.ne_of_gt (blk_lt (g := gb333) (o := .cells #[.int .i64 a1_0, .int .i64 a1_1] 25 (0, 0)) (by (with_reducible repeat (first | refine bR ?_ | refine bA ?_ _)); exact BK333.out)) : gb335 ≠ gb333)); have n8_ := aK ((by rw [hg]; exact Nat.ne_of_lt (blk_lt (g := gb334) (o := .cells #[.int .i64 a2_0, .int .i64 a2_1] 25 (0, 0)) (by (with_reducible repeat (first | refine bR ?_ | refine bA ?_ _)); exact BK334.out)) : gb334 ≠ gb335)); have n9_ := aK ((by rw [hg]; exact Nat.ne_of_gt (blk_lt (g := gb334) (o := .cells #[.int .i64 a2_0, .int .i64 a2_1] 25 (0, 0)) (by (with_reducible repeat (first | refine bR ?_ | refine bA ?_ _)); exact BK334.out)) : gb335 ≠ gb334)); clear BK333; clear BK334; clear HB; have BK333 := n0_; have BK334 := n1_; have HB := n2_; have BK335 := n3_; have GW335 := n4_; have GE335 := n5_; have NB333_335 := n6_; have NB335_333 := n7_; have NB334_335 := n8_; have NB335_334 := n9_; clear n0_ n1_ n2_ n3_ n4_ n5_ n6_ n7_ n8_ n9_; clear hb hbox hg))
 have n0_ := aK (blk_drew BK333.out)
 have n1_ := aK (blk_drew BK334.out)
 have n2_ := aK (blk_drew BK335.out)
 have n3_ := aK (below_drew1 HB.out)
 clear BK333
 clear BK334
 clear BK335
 clear HB
 have BK333 := n0_
 have BK334 := n1_
 have BK335 := n2_
 have HB := n3_
 clear n0_ n1_ n2_ n3_
 refine start_ (n := 6) (S := fun w' => w'.cell? ⟨gb333, 0, none⟩ = some (.int .i64 a1_0) ∧ w'.cell? ⟨gb333, 1, none⟩ = some (.int .i64 a1_1) ∧ w'.cell? ⟨gb334, 0, none⟩ = some (.int .i64 a2_0) ∧ w'.cell? ⟨gb334, 1, none⟩ = some (.int .i64 a2_1)) (ds := [4, 5]) #[Z,Z,Z,Z,Z,Z] (by kernel_rfl) rfl rfl ⟨(blk_cell BK333.out 0).trans rfl, (blk_cell BK333.out 1).trans rfl, (blk_cell BK334.out 0).trans rfl, (blk_cell BK334.out 1).trans rfl⟩ (fun hHeld => ?_)
 generalize w9.drew = w10 at BK333 BK334 BK335 HB hHeld ⊢
 refine take_ (i := 0) (N := some 15) (v := ?_) (a' := ?_) #[Y,Z,Z,Z,Z,Z] rfl rfl (by kernel_rfl) (fun _ _ _ h => h) (Or.inl ⟨by rfl, ?_⟩) hHeld ?_ ?_
 rotate_left
 · rintro w' ⟨s0, s1, s2, s3⟩
   go_simp
   with_reducible rfl
 rotate_left
 · simp only [Act.put, sA, sB, sC, i64_w, i32_w]
   rfl
 refine take_ (i := 2) (N := some 17) (v := ?_) (a' := ?_) #[Y,Z,Y,Z,Z,Z] rfl rfl (by kernel_rfl) (fun _ _ _ h => h) (Or.inl ⟨by rfl, ?_⟩) hHeld ?_ ?_
 rotate_left
 · rintro w' ⟨s0, s1, s2, s3⟩
   go_simp
   with_reducible rfl
 rotate_left
 · simp only [Act.put, sA, sB, sC, i64_w, i32_w]
   rfl
 refine one_ (i := 1) (N := some 16) #[Y,Y,Y,Z,Z,Z] rfl rfl (by kernel_rfl) (by decide) (fun K hK => ?_)
 refine goes_ Tryd.func42 (by kernel_rfl) rfl #[.agg #[.int .i64 a1_0, .int .i64 a1_1]] (by rfl) rfl rfl (by (try simp only [mA, mB, mC]); first | done | rfl) ?_
 with_reducible refine (timeboundref08_Form.calls k a1_0 a1_1 t336 t337 _ A4.out).mono ?_
 rintro e w11 ⟨rfl, hb⟩
 refine ⟨_, rfl, ?_⟩
 have n0_ := aK (blk_below (g := gb333) (o := .cells #[.int .i64 a1_0, .int .i64 a1_1] 25 (0, 0)) (by (with_reducible repeat (first | refine bR ?_ | refine bA ?_ _)); exact BK333.out) hb)
 have n1_ := aK (blk_below (g := gb334) (o := .cells #[.int .i64 a2_0, .int .i64 a2_1] 25 (0, 0)) (by (with_reducible repeat (first | refine bR ?_ | refine bA ?_ _)); exact BK334.out) hb)
 have n2_ := aK (blk_below (g := gb335) (o := .cells #[.int .i64 0, .int .i64 0] 25 (0, 0)) (by (with_reducible repeat (first | refine bR ?_ | refine bA ?_ _)); exact BK335.out) hb)
 have n3_ := aK (below_step (by repeat (first | (with_reducible first | exact HB.out | apply hA | apply hN | apply hD | refine below_set ?_ GE333.out | refine below_set ?_ GE334.out | refine below_set ?_ GE335.out) | exact HB.out)) hb)
 clear BK333
 clear BK334
 clear BK335
 clear HB
 have BK333 := n0_
 have BK334 := n1_
 have BK335 := n2_
 have HB := n3_
 clear n0_ n1_ n2_ n3_
 (try clear hb)
 (try clear hb2)
 (try clear hk)
 (try clear hi)
 refine hK.out _ _ ⟨(blk_cell BK333.out 0).trans rfl, (blk_cell BK333.out 1).trans rfl, (blk_cell BK334.out 0).trans rfl, (blk_cell BK334.out 1).trans rfl⟩ (fun hHeld => ?_)
 clear hK K
 refine norm_ (a' := ?_) ?_ ?_
 rotate_left
 · show Act.put _ (some 16) _ = _
   simp only [Act.put, sA, sB, sC, i64_w, i32_w]
   rfl
 refine one_ (i := 3) (N := some 18) #[Y,Y,Y,Y,Z,Z] rfl rfl (by kernel_rfl) (by decide) (fun K hK => ?_)
 refine goes_ Tryd.func42 (by kernel_rfl) rfl #[.agg #[.int .i64 a2_0, .int .i64 a2_1]] (by rfl) rfl rfl (by (try simp only [mA, mB, mC]); first | done | rfl) ?_
 with_reducible refine (timeboundref08_Form.calls k a2_0 a2_1 t338 t339 _ A5.out).mono ?_
 rintro e w12 ⟨rfl, hb⟩
 refine ⟨_, rfl, ?_⟩
 have n0_ := aK (blk_below (g := gb333) (o := .cells #[.int .i64 a1_0, .int .i64 a1_1] 25 (0, 0)) (by (with_reducible repeat (first | refine bR ?_ | refine bA ?_ _)); exact BK333.out) hb)
 have n1_ := aK (blk_below (g := gb334) (o := .cells #[.int .i64 a2_0, .int .i64 a2_1] 25 (0, 0)) (by (with_reducible repeat (first | refine bR ?_ | refine bA ?_ _)); exact BK334.out) hb)
 have n2_ := aK (blk_below (g := gb335) (o := .cells #[.int .i64 0, .int .i64 0] 25 (0, 0)) (by (with_reducible repeat (first | refine bR ?_ | refine bA ?_ _)); exact BK335.out) hb)
 have n3_ := aK (below_step (by repeat (first | (with_reducible first | exact HB.out | apply hA | apply hN | apply hD | refine below_set ?_ GE333.out | refine below_set ?_ GE334.out | refine below_set ?_ GE335.out) | exact HB.out)) hb)
 clear BK333
 clear BK334
 clear BK335
 clear HB
 have BK333 := n0_
 have BK334 := n1_
 have BK335 := n2_
 have HB := n3_
 clear n0_ n1_ n2_ n3_
 (try clear hb)
 (try clear hb2)
 (try clear hk)
 (try clear hi)
 refine hK.out _ _ ⟨(blk_cell BK333.out 0).trans rfl, (blk_cell BK333.out 1).trans rfl, (blk_cell BK334.out 0).trans rfl, (blk_cell BK334.out 1).trans rfl⟩ (fun hHeld => ?_)
 clear hK K
 refine norm_ (a' := ?_) ?_ ?_
 rotate_left
 · show Act.put _ (some 18) _ = _
   simp only [Act.put, sA, sB, sC, i64_w, i32_w]
   rfl
 refine last_ (i := 4) (N := none) #[Y,Y,Y,Y,Y,Z] rfl rfl (by kernel_rfl) (by decide) (fun K hK => ?_)
 have hs13 : w12.cell? ⟨gb333, 0, none⟩ = some (.int .i64 a1_0) := (blk_cell BK333.out 0).trans rfl
 have hfs13 := blk_frozen BK333.out 0
 have hns13_1 := NB334_333.out
 have hns13_2 := NB335_333.out
 have hms13_1 := NB333_334.out
 have hms13_2 := NB333_335.out
 have hs14 : w12.cell? ⟨gb333, 1, none⟩ = some (.int .i64 a1_1) := (blk_cell BK333.out 1).trans rfl
 have hfs14 := blk_frozen BK333.out 1
 have hns14_1 := NB334_333.out
 have hns14_2 := NB335_333.out
 have hms14_1 := NB333_334.out
 have hms14_2 := NB333_335.out
 refine skip_ (w1 := ?_) (by rfl) rfl ?_ ?_
 rotate_left
 · go_simp
   rfl
 refine hK.out _ _ ?_
 clear hK K
 refine last_ (i := 5) (N := none) #[Y,Y,Y,Y,Y,Y] rfl rfl (by kernel_rfl) (by decide) (fun K hK => ?_)
 have hs15 : w12.cell? ⟨gb334, 0, none⟩ = some (.int .i64 a2_0) := (blk_cell BK334.out 0).trans rfl
 have hfs15 := blk_frozen BK334.out 0
 have hns15_0 := NB333_334.out
 have hns15_2 := NB335_334.out
 have hms15_0 := NB334_333.out
 have hms15_2 := NB334_335.out
 have hs16 : w12.cell? ⟨gb334, 1, none⟩ = some (.int .i64 a2_1) := (blk_cell BK334.out 1).trans rfl
 have hfs16 := blk_frozen BK334.out 1
 have hns16_0 := NB333_334.out
 have hns16_2 := NB335_334.out
 have hms16_0 := NB334_333.out
 have hms16_2 := NB334_335.out
 refine skip_ (w1 := ?_) (by rfl) rfl ?_ ?_
 rotate_left
 · go_simp
   rfl
 refine hK.out _ _ ?_
 clear hK K
 refine done_ (by kernel_rfl) ?_
 go_upto_region 2 with (fail)
 go_cut [26] (fun v26 wc => ∃ (kq : Nat) (x26_5 : Bool), v26 = .bool x26_5 ∧ Aside0 (timeboundref08_Do.j0 kq a0 x26_5 t336 t337 t338 t339 = some (r1, r2)) ∧ Aside0 (kq ≤ k) ∧ Aside0 (wc.heap[gb333]? = some (.cells #[.int .i64 t336, .int .i64 t337] 25 (0, 0))) ∧ Aside0 (wc.heap[gb334]? = some (.cells #[.int .i64 t338, .int .i64 t339] 25 (0, 0))) ∧ Aside0 (wc.heap[gb335]? = some (.cells #[.int .i64 0, .int .i64 0] 25 (0, 0))) ∧ Aside0 (Below w.heap.size w wc))
 case first =>
  have H := HC6.out
  clear HC6
  replace H := Option.bind_eq_some_iff.mp H
  obtain ⟨⟨t340, t341⟩, A170, H⟩ := H
  replace H : (if (t336 == t340 && (t337 == t341)) = true then (timeboundref08_Do.j0 k a0 true t336 t337 t338 t339) else ((timeboundref08_None.f).bind fun bt342 => (timeboundref08_Do.j0 k a0 (t338 == bt342.1 && (t339 == bt342.2)) t336 t337 t338 t339))) = some (r1, r2) := H
  have A17 := aK A170
  clear A170
  by_cases c18 : (t336 == t340 && (t337 == t341)) = true
  · rw [if_pos c18] at H
    have c18b0 : (t336 == t340 && (t337 == t341)) = true := c18
    (try (have c18b1 : decide (t336 = t340 && (t337 == t341)) = true := by simpa using c18))
    (try (have c18b2 : (t336 == t340 && (t337 == t341)) = true := by simpa using c18))
    clear c18
    (first | rw [c18b0] | (simp only [i64_w, i32_w]; rw [c18b0]) | skip)
    have H' := aK H
    clear H
    try go_wp2
    have n0_ : Aside0 (((((w12.setCell ⟨gb333, 0, none⟩ (.int .i64 t336)).setCell ⟨gb333, 1, none⟩ (.int .i64 t337)).setCell ⟨gb334, 0, none⟩ (.int .i64 t338)).setCell ⟨gb334, 1, none⟩ (.int .i64 t339)).heap[gb333]? = some (.cells #[.int .i64 t336, .int .i64 t337] 25 (0, 0))) := ⟨by (with_reducible repeat (first | refine bR ?_ | refine bA ?_ _)); refine blk_far ?_ NB333_334.out _; (with_reducible repeat (first | refine bR ?_ | refine bA ?_ _)); refine blk_far ?_ NB333_334.out _; (with_reducible repeat (first | refine bR ?_ | refine bA ?_ _)); refine blk_put (cs := #[.int .i64 t336, .int .i64 a1_1]) ?_ 1 _ rfl; (with_reducible repeat (first | refine bR ?_ | refine bA ?_ _)); refine blk_put (cs := #[.int .i64 a1_0, .int .i64 a1_1]) ?_ 0 _ rfl; (with_reducible repeat (first | refine bR ?_ | refine bA ?_ _)); exact BK333.out⟩
    have n1_ : Aside0 (((((w12.setCell ⟨gb333, 0, none⟩ (.int .i64 t336)).setCell ⟨gb333, 1, none⟩ (.int .i64 t337)).setCell ⟨gb334, 0, none⟩ (.int .i64 t338)).setCell ⟨gb334, 1, none⟩ (.int .i64 t339)).heap[gb334]? = some (.cells #[.int .i64 t338, .int .i64 t339] 25 (0, 0))) := ⟨by (with_reducible repeat (first | refine bR ?_ | refine bA ?_ _)); refine blk_put (cs := #[.int .i64 t338, .int .i64 a2_1]) ?_ 1 _ rfl; (with_reducible repeat (first | refine bR ?_ | refine bA ?_ _)); refine blk_put (cs := #[.int .i64 a2_0, .int .i64 a2_1]) ?_ 0 _ rfl; (with_reducible repeat (first | refine bR ?_ | refine bA ?_ _)); refine blk_far ?_ NB334_333.out _; (with_reducible repeat (first | refine bR ?_ | refine bA ?_ _)); refine blk_far ?_ NB334_333.out _; (with_reducible repeat (first | refine bR ?_ | refine bA ?_ _)); exact BK334.out⟩
    have n2_ : Aside0 (((((w12.setCell ⟨gb333, 0, none⟩ (.int .i64 t336)).setCell ⟨gb333, 1, none⟩ (.int .i64 t337)).setCell ⟨gb334, 0, none⟩ (.int .i64 t338)).setCell ⟨gb334, 1, none⟩ (.int .i64 t339)).heap[gb335]? = some (.cells #[.int .i64 0, .int .i64 0] 25 (0, 0))) := ⟨by (with_reducible repeat (first | refine bR ?_ | refine bA ?_ _)); refine blk_far ?_ NB335_334.out _; (with_reducible repeat (first | refine bR ?_ | refine bA ?_ _)); refine blk_far ?_ NB335_334.out _; (with_reducible repeat (first | refine bR ?_ | refine bA ?_ _)); refine blk_far ?_ NB335_333.out _; (with_reducible repeat (first | refine bR ?_ | refine bA ?_ _)); refine blk_far ?_ NB335_333.out _; (with_reducible repeat (first | refine bR ?_ | refine bA ?_ _)); exact BK335.out⟩
    have n3_ : Aside0 (Below w.heap.size w ((((w12.setCell ⟨gb333, 0, none⟩ (.int .i64 t336)).setCell ⟨gb333, 1, none⟩ (.int .i64 t337)).setCell ⟨gb334, 0, none⟩ (.int .i64 t338)).setCell ⟨gb334, 1, none⟩ (.int .i64 t339))) := ⟨by repeat (first | (with_reducible first | exact HB.out | apply hA | apply hN | apply hD | refine below_set ?_ GE333.out | refine below_set ?_ GE334.out | refine below_set ?_ GE335.out) | exact HB.out)⟩
    (try clear BK333)
    (try clear BK334)
    (try clear BK335)
    (try clear HB)
    generalize ((((w12.setCell ⟨gb333, 0, none⟩ (.int .i64 t336)).setCell ⟨gb333, 1, none⟩ (.int .i64 t337)).setCell ⟨gb334, 0, none⟩ (.int .i64 t338)).setCell ⟨gb334, 1, none⟩ (.int .i64 t339)) = w19 at n0_ n1_ n2_ n3_ ⊢
    have BK333 := n0_
    have BK334 := n1_
    have BK335 := n2_
    have HB := n3_
    clear n0_ n1_ n2_ n3_
    have n0_ := aK (blk_drew BK333.out)
    have n1_ := aK (blk_drew BK334.out)
    have n2_ := aK (blk_drew BK335.out)
    have n3_ := aK (below_drew1 HB.out)
    clear BK333
    clear BK334
    clear BK335
    clear HB
    have BK333 := n0_
    have BK334 := n1_
    have BK335 := n2_
    have HB := n3_
    clear n0_ n1_ n2_ n3_
    refine start_ (n := 8) (S := fun w' => w'.cell? ⟨gb333, 0, none⟩ = some (.int .i64 t336) ∧ w'.cell? ⟨gb333, 1, none⟩ = some (.int .i64 t337)) (ds := []) #[Z,Z,Z,Z,Z,Z,Z,Z] (by kernel_rfl) rfl rfl ⟨(blk_cell BK333.out 0).trans rfl, (blk_cell BK333.out 1).trans rfl⟩ (fun hHeld => ?_); refine with_tabW timeboundref08_Do.tab2 timeboundref08_Do.bits2 (fun HT_ HW_ => ?_)
    generalize w19.drew = w20 at BK333 BK334 BK335 HB hHeld ⊢
    refine take_ (i := 0) (N := some 19) (v := ?_) (a' := ?_) #[Y,Z,Z,Z,Z,Z,Z,Z] rfl rfl (take_ofW HT_.out HW_.out (by kernel_rfl)) (fun _ _ _ h => h) (Or.inl ⟨by rfl, ?_⟩) hHeld ?_ ?_
    rotate_left
    · rintro w' ⟨s0, s1⟩
      go_simp
      with_reducible rfl
    rotate_left
    · simp only [Act.put, sA, sB, sC, i64_w, i32_w]
      rfl
    refine one_ (i := 1) (N := some 20) #[Y,Y,Z,Z,Z,Z,Z,Z] rfl rfl (one_of HT_.out (by kernel_rfl)) (by decide) (fun K hK => ?_)
    refine goes_ Tryd.func21 (by kernel_rfl) rfl #[] (by rfl) rfl rfl (by (try simp only [mA, mB, mC]); first | done | rfl) ?_
    with_reducible refine (timeboundref08_None.calls  t340 t341 _ A17.out).mono ?_
    rintro e w21 ⟨rfl, hb⟩
    refine ⟨_, rfl, ?_⟩
    have n0_ := aK (blk_below (g := gb333) (o := .cells #[.int .i64 t336, .int .i64 t337] 25 (0, 0)) (by (with_reducible repeat (first | refine bR ?_ | refine bA ?_ _)); exact BK333.out) hb)
    have n1_ := aK (blk_below (g := gb334) (o := .cells #[.int .i64 t338, .int .i64 t339] 25 (0, 0)) (by (with_reducible repeat (first | refine bR ?_ | refine bA ?_ _)); exact BK334.out) hb)
    have n2_ := aK (blk_below (g := gb335) (o := .cells #[.int .i64 0, .int .i64 0] 25 (0, 0)) (by (with_reducible repeat (first | refine bR ?_ | refine bA ?_ _)); exact BK335.out) hb)
    have n3_ := aK (below_step (by repeat (first | (with_reducible first | exact HB.out | apply hA | apply hN | apply hD | refine below_set ?_ GE333.out | refine below_set ?_ GE334.out | refine below_set ?_ GE335.out) | exact HB.out)) hb)
    clear BK333
    clear BK334
    clear BK335
    clear HB
    have BK333 := n0_
    have BK334 := n1_
    have BK335 := n2_
    have HB := n3_
    clear n0_ n1_ n2_ n3_
    (try clear hb)
    (try clear hb2)
    (try clear hk)
    (try clear hi)
    refine hK.out _ _ ⟨(blk_cell BK333.out 0).trans rfl, (blk_cell BK333.out 1).trans rfl⟩ (fun hHeld => ?_)
    clear hK K
    refine norm_ (a' := ?_) ?_ ?_
    rotate_left
    · show Act.put _ (some 20) _ = _
      simp only [Act.put, sA, sB, sC, i64_w, i32_w]
      rfl
    refine pure_ (i := 2) (N := some 21) (v := ?_) (a' := ?_) #[Y,Y,Y,Z,Z,Z,Z,Z] rfl rfl (any_of HT_.out (by kernel_rfl)) (fun _ _ _ h => h) (Or.inl ⟨by rfl, ?_⟩) ?_ ?_
    rotate_left
    · intro w'
      go_simp
      with_reducible rfl
    rotate_left
    · simp only [Act.put, sA, sB, sC, i64_w, i32_w]
      rfl
    refine pure_ (i := 3) (N := some 22) (v := ?_) (a' := ?_) #[Y,Y,Y,Y,Z,Z,Z,Z] rfl rfl (any_of HT_.out (by kernel_rfl)) (fun _ _ _ h => h) (Or.inl ⟨by rfl, ?_⟩) ?_ ?_
    rotate_left
    · intro w'
      go_simp
      with_reducible rfl
    rotate_left
    · simp only [Act.put, sA, sB, sC, i64_w, i32_w]
      rfl
    refine pure_ (i := 4) (N := some 23) (v := undef) (a' := ?_) #[Y,Y,Y,Y,Y,Z,Z,Z] rfl rfl (any_of HT_.out (by kernel_rfl)) (fun _ _ _ h => h) (Or.inr ⟨by rfl, rfl⟩) ?_ ?_
    rotate_left
    · simp only [Act.put, sA, sB, sC, i64_w, i32_w]
      rfl
    refine pure_ (i := 5) (N := some 24) (v := undef) (a' := ?_) #[Y,Y,Y,Y,Y,Y,Z,Z] rfl rfl (any_of HT_.out (by kernel_rfl)) (fun _ _ _ h => h) (Or.inr ⟨by rfl, rfl⟩) ?_ ?_
    rotate_left
    · simp only [Act.put, sA, sB, sC, i64_w, i32_w]
      rfl
    refine pure_ (i := 6) (N := some 25) (v := undef) (a' := ?_) #[Y,Y,Y,Y,Y,Y,Y,Z] rfl rfl (any_of HT_.out (by kernel_rfl)) (fun _ _ _ h => h) (Or.inr ⟨by rfl, rfl⟩) ?_ ?_
    rotate_left
    · simp only [Act.put, sA, sB, sC, i64_w, i32_w]
      rfl
    refine pure_ (i := 7) (N := some 26) (v := ?_) (a' := ?_) #[Y,Y,Y,Y,Y,Y,Y,Y] rfl rfl (any_of HT_.out (by kernel_rfl)) (fun _ _ _ h => h) (Or.inl ⟨by rfl, ?_⟩) ?_ ?_
    rotate_left
    · intro w'
      go_simp
      with_reducible rfl
    rotate_left
    · simp only [Act.put, sA, sB, sC, i64_w, i32_w]
      rfl
    refine done_ (done_of HT_.out (by kernel_rfl)) ?_
    try go_wp2
    go_meet
    case rel => exact ⟨_, (true), (by first | rfl | (simp; done) | (simp [*]; done)), H', ⟨by first | omega | exact Nat.le_refl _⟩, ⟨by (with_reducible repeat (first | refine bR ?_ | refine bA ?_ _)); exact BK333.out⟩, ⟨by (with_reducible repeat (first | refine bR ?_ | refine bA ?_ _)); exact BK334.out⟩, ⟨by (with_reducible repeat (first | refine bR ?_ | refine bA ?_ _)); exact BK335.out⟩, ⟨by repeat (first | (with_reducible first | exact HB.out | apply hA | apply hN | apply hD | refine below_set ?_ GE333.out | refine below_set ?_ GE334.out | refine below_set ?_ GE335.out) | exact HB.out)⟩⟩
  · rw [if_neg c18] at H
    have c18b0 : (t336 == t340 && (t337 == t341)) = false := by simpa using c18
    (try (have c18b1 : decide (t336 = t340 && (t337 == t341)) = false := by simpa using c18))
    (try (have c18b2 : (t336 == t340 && (t337 == t341)) = false := by simpa using c18))
    (try (have c18b3 : ¬ (t336 = t340 && (t337 == t341)) := by simpa using c18))
    clear c18
    (first | rw [c18b0] | (simp only [i64_w, i32_w]; rw [c18b0]) | skip)
    replace H := Option.bind_eq_some_iff.mp H
    obtain ⟨⟨t342, t343⟩, A220, H⟩ := H
    replace H : (timeboundref08_Do.j0 k a0 (t338 == t342 && (t339 == t343)) t336 t337 t338 t339) = some (r1, r2) := H
    have A22 := aK A220
    clear A220
    have H' := aK H
    clear H
    try go_wp2
    have n0_ : Aside0 (((((w12.setCell ⟨gb333, 0, none⟩ (.int .i64 t336)).setCell ⟨gb333, 1, none⟩ (.int .i64 t337)).setCell ⟨gb334, 0, none⟩ (.int .i64 t338)).setCell ⟨gb334, 1, none⟩ (.int .i64 t339)).heap[gb333]? = some (.cells #[.int .i64 t336, .int .i64 t337] 25 (0, 0))) := ⟨by (with_reducible repeat (first | refine bR ?_ | refine bA ?_ _)); refine blk_far ?_ NB333_334.out _; (with_reducible repeat (first | refine bR ?_ | refine bA ?_ _)); refine blk_far ?_ NB333_334.out _; (with_reducible repeat (first | refine bR ?_ | refine bA ?_ _)); refine blk_put (cs := #[.int .i64 t336, .int .i64 a1_1]) ?_ 1 _ rfl; (with_reducible repeat (first | refine bR ?_ | refine bA ?_ _)); refine blk_put (cs := #[.int .i64 a1_0, .int .i64 a1_1]) ?_ 0 _ rfl; (with_reducible repeat (first | refine bR ?_ | refine bA ?_ _)); exact BK333.out⟩
    have n1_ : Aside0 (((((w12.setCell ⟨gb333, 0, none⟩ (.int .i64 t336)).setCell ⟨gb333, 1, none⟩ (.int .i64 t337)).setCell ⟨gb334, 0, none⟩ (.int .i64 t338)).setCell ⟨gb334, 1, none⟩ (.int .i64 t339)).heap[gb334]? = some (.cells #[.int .i64 t338, .int .i64 t339] 25 (0, 0))) := ⟨by (with_reducible repeat (first | refine bR ?_ | refine bA ?_ _)); refine blk_put (cs := #[.int .i64 t338, .int .i64 a2_1]) ?_ 1 _ rfl; (with_reducible repeat (first | refine bR ?_ | refine bA ?_ _)); refine blk_put (cs := #[.int .i64 a2_0, .int .i64 a2_1]) ?_ 0 _ rfl; (with_reducible repeat (first | refine bR ?_ | refine bA ?_ _)); refine blk_far ?_ NB334_333.out _; (with_reducible repeat (first | refine bR ?_ | refine bA ?_ _)); refine blk_far ?_ NB334_333.out _; (with_reducible repeat (first | refine bR ?_ | refine bA ?_ _)); exact BK334.out⟩
    have n2_ : Aside0 (((((w12.setCell ⟨gb333, 0, none⟩ (.int .i64 t336)).setCell ⟨gb333, 1, none⟩ (.int .i64 t337)).setCell ⟨gb334, 0, none⟩ (.int .i64 t338)).setCell ⟨gb334, 1, none⟩ (.int .i64 t339)).heap[gb335]? = some (.cells #[.int .i64 0, .int .i64 0] 25 (0, 0))) := ⟨by (with_reducible repeat (first | refine bR ?_ | refine bA ?_ _)); refine blk_far ?_ NB335_334.out _; (with_reducible repeat (first | refine bR ?_ | refine bA ?_ _)); refine blk_far ?_ NB335_334.out _; (with_reducible repeat (first | refine bR ?_ | refine bA ?_ _)); refine blk_far ?_ NB335_333.out _; (with_reducible repeat (first | refine bR ?_ | refine bA ?_ _)); refine blk_far ?_ NB335_333.out _; (with_reducible repeat (first | refine bR ?_ | refine bA ?_ _)); exact BK335.out⟩
    have n3_ : Aside0 (Below w.heap.size w ((((w12.setCell ⟨gb333, 0, none⟩ (.int .i64 t336)).setCell ⟨gb333, 1, none⟩ (.int .i64 t337)).setCell ⟨gb334, 0, none⟩ (.int .i64 t338)).setCell ⟨gb334, 1, none⟩ (.int .i64 t339))) := ⟨by repeat (first | (with_reducible first | exact HB.out | apply hA | apply hN | apply hD | refine below_set ?_ GE333.out | refine below_set ?_ GE334.out | refine below_set ?_ GE335.out) | exact HB.out)⟩
    (try clear BK333)
    (try clear BK334)
    (try clear BK335)
    (try clear HB)
    generalize ((((w12.setCell ⟨gb333, 0, none⟩ (.int .i64 t336)).setCell ⟨gb333, 1, none⟩ (.int .i64 t337)).setCell ⟨gb334, 0, none⟩ (.int .i64 t338)).setCell ⟨gb334, 1, none⟩ (.int .i64 t339)) = w23 at n0_ n1_ n2_ n3_ ⊢
    have BK333 := n0_
    have BK334 := n1_
    have BK335 := n2_
    have HB := n3_
    clear n0_ n1_ n2_ n3_
    have n0_ := aK (blk_drew BK333.out)
    have n1_ := aK (blk_drew BK334.out)
    have n2_ := aK (blk_drew BK335.out)
    have n3_ := aK (below_drew1 HB.out)
    clear BK333
    clear BK334
    clear BK335
    clear HB
    have BK333 := n0_
    have BK334 := n1_
    have BK335 := n2_
    have HB := n3_
    clear n0_ n1_ n2_ n3_
    refine start_ (n := 8) (S := fun w' => w'.cell? ⟨gb333, 0, none⟩ = some (.int .i64 t336) ∧ w'.cell? ⟨gb333, 1, none⟩ = some (.int .i64 t337) ∧ w'.cell? ⟨gb334, 0, none⟩ = some (.int .i64 t338) ∧ w'.cell? ⟨gb334, 1, none⟩ = some (.int .i64 t339)) (ds := []) #[Z,Z,Z,Z,Z,Z,Z,Z] (by kernel_rfl) rfl rfl ⟨(blk_cell BK333.out 0).trans rfl, (blk_cell BK333.out 1).trans rfl, (blk_cell BK334.out 0).trans rfl, (blk_cell BK334.out 1).trans rfl⟩ (fun hHeld => ?_); refine with_tabW timeboundref08_Do.tab2 timeboundref08_Do.bits2 (fun HT_ HW_ => ?_)
    generalize w23.drew = w24 at BK333 BK334 BK335 HB hHeld ⊢
    refine take_ (i := 0) (N := some 19) (v := ?_) (a' := ?_) #[Y,Z,Z,Z,Z,Z,Z,Z] rfl rfl (take_ofW HT_.out HW_.out (by kernel_rfl)) (fun _ _ _ h => h) (Or.inl ⟨by rfl, ?_⟩) hHeld ?_ ?_
    rotate_left
    · rintro w' ⟨s0, s1, s2, s3⟩
      go_simp
      with_reducible rfl
    rotate_left
    · simp only [Act.put, sA, sB, sC, i64_w, i32_w]
      rfl
    refine one_ (i := 1) (N := some 20) #[Y,Y,Z,Z,Z,Z,Z,Z] rfl rfl (one_of HT_.out (by kernel_rfl)) (by decide) (fun K hK => ?_)
    refine goes_ Tryd.func21 (by kernel_rfl) rfl #[] (by rfl) rfl rfl (by (try simp only [mA, mB, mC]); first | done | rfl) ?_
    with_reducible refine (timeboundref08_None.calls  t340 t341 _ A17.out).mono ?_
    rintro e w25 ⟨rfl, hb⟩
    refine ⟨_, rfl, ?_⟩
    have n0_ := aK (blk_below (g := gb333) (o := .cells #[.int .i64 t336, .int .i64 t337] 25 (0, 0)) (by (with_reducible repeat (first | refine bR ?_ | refine bA ?_ _)); exact BK333.out) hb)
    have n1_ := aK (blk_below (g := gb334) (o := .cells #[.int .i64 t338, .int .i64 t339] 25 (0, 0)) (by (with_reducible repeat (first | refine bR ?_ | refine bA ?_ _)); exact BK334.out) hb)
    have n2_ := aK (blk_below (g := gb335) (o := .cells #[.int .i64 0, .int .i64 0] 25 (0, 0)) (by (with_reducible repeat (first | refine bR ?_ | refine bA ?_ _)); exact BK335.out) hb)
    have n3_ := aK (below_step (by repeat (first | (with_reducible first | exact HB.out | apply hA | apply hN | apply hD | refine below_set ?_ GE333.out | refine below_set ?_ GE334.out | refine below_set ?_ GE335.out) | exact HB.out)) hb)
    clear BK333
    clear BK334
    clear BK335
    clear HB
    have BK333 := n0_
    have BK334 := n1_
    have BK335 := n2_
    have HB := n3_
    clear n0_ n1_ n2_ n3_
    (try clear hb)
    (try clear hb2)
    (try clear hk)
    (try clear hi)
    refine hK.out _ _ ⟨(blk_cell BK333.out 0).trans rfl, (blk_cell BK333.out 1).trans rfl, (blk_cell BK334.out 0).trans rfl, (blk_cell BK334.out 1).trans rfl⟩ (fun hHeld => ?_)
    clear hK K
    refine norm_ (a' := ?_) ?_ ?_
    rotate_left
    · show Act.put _ (some 20) _ = _
      simp only [Act.put, sA, sB, sC, i64_w, i32_w]
      rfl
    refine pure_ (i := 2) (N := some 21) (v := ?_) (a' := ?_) #[Y,Y,Y,Z,Z,Z,Z,Z] rfl rfl (any_of HT_.out (by kernel_rfl)) (fun _ _ _ h => h) (Or.inl ⟨by rfl, ?_⟩) ?_ ?_
    rotate_left
    · intro w'
      go_simp
      with_reducible rfl
    rotate_left
    · simp only [Act.put, sA, sB, sC, i64_w, i32_w]
      rfl
    refine pure_ (i := 3) (N := some 22) (v := ?_) (a' := ?_) #[Y,Y,Y,Y,Z,Z,Z,Z] rfl rfl (any_of HT_.out (by kernel_rfl)) (fun _ _ _ h => h) (Or.inl ⟨by rfl, ?_⟩) ?_ ?_
    rotate_left
    · intro w'
      go_simp
      with_reducible rfl
    rotate_left
    · simp only [Act.put, sA, sB, sC, i64_w, i32_w]
      rfl
    refine take_ (i := 4) (N := some 23) (v := ?_) (a' := ?_) #[Y,Y,Y,Y,Y,Z,Z,Z] rfl rfl (take_ofW HT_.out HW_.out (by kernel_rfl)) (fun _ _ _ h => h) (Or.inl ⟨by rfl, ?_⟩) hHeld ?_ ?_
    rotate_left
    · rintro w' ⟨s0, s1, s2, s3⟩
      go_simp
      with_reducible rfl
    rotate_left
    · simp only [Act.put, sA, sB, sC, i64_w, i32_w]
      rfl
    refine one_ (i := 5) (N := some 24) #[Y,Y,Y,Y,Y,Y,Z,Z] rfl rfl (one_of HT_.out (by kernel_rfl)) (by decide) (fun K hK => ?_)
    refine goes_ Tryd.func21 (by kernel_rfl) rfl #[] (by rfl) rfl rfl (by (try simp only [mA, mB, mC]); first | done | rfl) ?_
    with_reducible refine (timeboundref08_None.calls  t342 t343 _ A22.out).mono ?_
    rintro e w26 ⟨rfl, hb⟩
    refine ⟨_, rfl, ?_⟩
    have n0_ := aK (blk_below (g := gb333) (o := .cells #[.int .i64 t336, .int .i64 t337] 25 (0, 0)) (by (with_reducible repeat (first | refine bR ?_ | refine bA ?_ _)); exact BK333.out) hb)
    have n1_ := aK (blk_below (g := gb334) (o := .cells #[.int .i64 t338, .int .i64 t339] 25 (0, 0)) (by (with_reducible repeat (first | refine bR ?_ | refine bA ?_ _)); exact BK334.out) hb)
    have n2_ := aK (blk_below (g := gb335) (o := .cells #[.int .i64 0, .int .i64 0] 25 (0, 0)) (by (with_reducible repeat (first | refine bR ?_ | refine bA ?_ _)); exact BK335.out) hb)
    have n3_ := aK (below_step (by repeat (first | (with_reducible first | exact HB.out | apply hA | apply hN | apply hD | refine below_set ?_ GE333.out | refine below_set ?_ GE334.out | refine below_set ?_ GE335.out) | exact HB.out)) hb)
    clear BK333
    clear BK334
    clear BK335
    clear HB
    have BK333 := n0_
    have BK334 := n1_
    have BK335 := n2_
    have HB := n3_
    clear n0_ n1_ n2_ n3_
    (try clear hb)
    (try clear hb2)
    (try clear hk)
    (try clear hi)
    refine hK.out _ _ ⟨(blk_cell BK333.out 0).trans rfl, (blk_cell BK333.out 1).trans rfl, (blk_cell BK334.out 0).trans rfl, (blk_cell BK334.out 1).trans rfl⟩ (fun hHeld => ?_)
    clear hK K
    refine norm_ (a' := ?_) ?_ ?_
    rotate_left
    · show Act.put _ (some 24) _ = _
      simp only [Act.put, sA, sB, sC, i64_w, i32_w]
      rfl
    refine pure_ (i := 6) (N := some 25) (v := ?_) (a' := ?_) #[Y,Y,Y,Y,Y,Y,Y,Z] rfl rfl (any_of HT_.out (by kernel_rfl)) (fun _ _ _ h => h) (Or.inl ⟨by rfl, ?_⟩) ?_ ?_
    rotate_left
    · intro w'
      go_simp
      with_reducible rfl
    rotate_left
    · simp only [Act.put, sA, sB, sC, i64_w, i32_w]
      rfl
    refine pure_ (i := 7) (N := some 26) (v := ?_) (a' := ?_) #[Y,Y,Y,Y,Y,Y,Y,Y] rfl rfl (any_of HT_.out (by kernel_rfl)) (fun _ _ _ h => h) (Or.inl ⟨by rfl, ?_⟩) ?_ ?_
    rotate_left
    · intro w'
      go_simp
      with_reducible rfl
    rotate_left
    · simp only [Act.put, sA, sB, sC, i64_w, i32_w]
      rfl
    refine done_ (done_of HT_.out (by kernel_rfl)) ?_
    try go_wp2
    go_meet
    case rel => exact ⟨_, ((t338 == t342 && (t339 == t343))), (by first | rfl | (simp; done) | (simp [*]; done)), H', ⟨by first | omega | exact Nat.le_refl _⟩, ⟨by (with_reducible repeat (first | refine bR ?_ | refine bA ?_ _)); exact BK333.out⟩, ⟨by (with_reducible repeat (first | refine bR ?_ | refine bA ?_ _)); exact BK334.out⟩, ⟨by (with_reducible repeat (first | refine bR ?_ | refine bA ?_ _)); exact BK335.out⟩, ⟨by repeat (first | (with_reducible first | exact HB.out | apply hA | apply hN | apply hD | refine below_set ?_ GE333.out | refine below_set ?_ GE334.out | refine below_set ?_ GE335.out) | exact HB.out)⟩⟩
 case rest =>
  clear HC6
  try clear c1
  try clear c2
  try clear p2
  try clear c3
  try clear c4
  try clear c18
  try clear c18b0
  try clear c18b1
  try clear c18b2
  try clear c21
  obtain ⟨kq, x26_5, rfl, HA, HJ5, BK333, BK334, BK335, HB⟩ := hcut
  cases kq with
  | zero => exact absurd HA.out (by simp [timeboundref08_Do.j0])
  | succ kj5 =>
   have H := HA.out
   clear HA
   simp only [timeboundref08_Do.j0] at H
   by_cases c27 : x26_5 = true
   · subst c27
     have H1 : ((timeboundref08_None.f).bind fun bt344 => (some (bt344.1, bt344.2))) = some (r1, r2) := by rw [if_pos rfl] at H; exact H
     clear H
     have H := H1
     clear H1
     replace H := Option.bind_eq_some_iff.mp H
     obtain ⟨⟨t344, t345⟩, A280, H⟩ := H
     replace H : (some (t344, t345)) = some (r1, r2) := H
     have A28 := aK A280
     clear A280
     simp only [Option.some.injEq, Prod.mk.injEq] at H
     obtain ⟨rfl, rfl⟩ := H
     go_wp2_with (first | ((with_reducible refine gate_callee (f := 21) rfl ?_); refine goesL_ (some 27) rfl rfl Tryd.func21 (by kernel_rfl) rfl #[] rfl (by (try simp only [mA, mB, mC]); first | done | rfl) ?_; (with_reducible refine (timeboundref08_None.calls  t344 t345 _ A28.out).mono ?_); rintro e w29 ⟨rfl, hb⟩; refine ⟨_, rfl, ?_⟩; have n0_ := aK (blk_below (g := gb333) (o := .cells #[.int .i64 t336, .int .i64 t337] 25 (0, 0)) (by (with_reducible repeat (first | refine bR ?_ | refine bA ?_ _)); exact BK333.out) hb); have n1_ := aK (blk_below (g := gb334) (o := .cells #[.int .i64 t338, .int .i64 t339] 25 (0, 0)) (by (with_reducible repeat (first | refine bR ?_ | refine bA ?_ _)); exact BK334.out) hb); have n2_ := aK (blk_below (g := gb335) (o := .cells #[.int .i64 0, .int .i64 0] 25 (0, 0)) (by (with_reducible repeat (first | refine bR ?_ | refine bA ?_ _)); exact BK335.out) hb); have n3_ := aK (below_step (by repeat (first | (with_reducible first | exact HB.out | apply hA | apply hN | apply hD | refine below_set ?_ GE333.out | refine below_set ?_ GE334.out | refine below_set ?_ GE335.out) | exact HB.out)) hb); clear BK333; clear BK334; clear BK335; clear HB; have BK333 := n0_; have BK334 := n1_; have BK335 := n2_; have HB := n3_; clear n0_ n1_ n2_ n3_; (try clear hb); (try clear hb2); (try clear hk); (try clear hi); have hnb30 := NB335_333.out; have hnc30 := NB333_335.out; have hnb31 := NB335_334.out; have hnc31 := NB334_335.out; have hcz32_0 : w29.cell? ⟨gb335, 0, none⟩ = some (.int .i64 0) := (blk_cell BK335.out 0).trans rfl; have hcz32_1 : w29.cell? ⟨gb335, 1, none⟩ = some (.int .i64 0) := (blk_cell BK335.out 1).trans rfl; have hfz32_0 := blk_frozen BK335.out 0; have hfz32_1 := blk_frozen BK335.out 1))
     refine bodyPost_ret (results_cell_row rfl _ _ gb335 25 #[.int .i64 t344, .int .i64 t345] (0, 0) _ rfl (by (with_reducible repeat (first | refine bR ?_ | refine bA ?_ _)); refine blk_put (cs := #[.int .i64 t344, .int .i64 0]) ?_ 1 _ rfl; (with_reducible repeat (first | refine bR ?_ | refine bA ?_ _)); refine blk_put (cs := #[.int .i64 0, .int .i64 0]) ?_ 0 _ rfl; (with_reducible repeat (first | refine bR ?_ | refine bA ?_ _)); exact BK335.out) Tryd.underlying25 rfl (by kernel_rfl)) rfl ?_
     exact ⟨by first | rfl | (simp [errW_none, errW_some] <;> rfl) | (simp [*, errW_none, errW_some] <;> rfl), by repeat (first | (with_reducible first | exact HB.out | apply hA | apply hN | apply hD | refine below_set ?_ GE333.out | refine below_set ?_ GE334.out | refine below_set ?_ GE335.out) | exact HB.out)⟩
   · replace c27 := Bool.eq_false_iff.mpr c27
     subst c27
     have H1 : (if t336 = 0 then (timeboundref08_Do.j1 kj5 a0 (t338 == 0) t336 t337 t338 t339) else (timeboundref08_Do.j1 kj5 a0 false t336 t337 t338 t339)) = some (r1, r2) := by rw [if_neg (show ¬ (false = true) by decide)] at H; exact H
     clear H
     have H := H1
     clear H1
     have HC33 := aK H
     clear H
     go_upto_region 4 with (fail)
     go_cut [35] (fun v35 wc => ∃ (kq : Nat) (x35_32 : Bool), v35 = .bool x35_32 ∧ Aside0 (timeboundref08_Do.j1 kq a0 x35_32 t336 t337 t338 t339 = some (r1, r2)) ∧ Aside0 (kq ≤ kj5) ∧ Aside0 (wc.heap[gb333]? = some (.cells #[.int .i64 t336, .int .i64 t337] 25 (0, 0))) ∧ Aside0 (wc.heap[gb334]? = some (.cells #[.int .i64 t338, .int .i64 t339] 25 (0, 0))) ∧ Aside0 (wc.heap[gb335]? = some (.cells #[.int .i64 0, .int .i64 0] 25 (0, 0))) ∧ Aside0 (Below w.heap.size w wc))
     case first =>
      have H := HC33.out
      clear HC33
      by_cases c34 : t336 = 0
      · rw [if_pos c34] at H
        have c34b0 : (t336 == 0) = true := beq_iff_eq.mpr c34
        have c34b1 : (t336 != 0) = false := bne_eq_false_iff_eq.mpr c34
        clear c34
        (first | rw [c34b0] | (simp only [i64_w, i32_w]; rw [c34b0]) | skip)
        have H' := aK H
        clear H
        have hnb35 := NB333_334.out
        have hnc35 := NB334_333.out
        have hnb36 := NB333_335.out
        have hnc36 := NB335_333.out
        have hcz37_0 : wc.cell? ⟨gb333, 0, none⟩ = some (.int .i64 t336) := (blk_cell BK333.out 0).trans rfl
        have hcz37_1 : wc.cell? ⟨gb333, 1, none⟩ = some (.int .i64 t337) := (blk_cell BK333.out 1).trans rfl
        have hfz37_0 := blk_frozen BK333.out 0
        have hfz37_1 := blk_frozen BK333.out 1
        have hnb38 := NB334_335.out
        have hnc38 := NB335_334.out
        have hcz39_0 : wc.cell? ⟨gb334, 0, none⟩ = some (.int .i64 t338) := (blk_cell BK334.out 0).trans rfl
        have hcz39_1 : wc.cell? ⟨gb334, 1, none⟩ = some (.int .i64 t339) := (blk_cell BK334.out 1).trans rfl
        have hfz39_0 := blk_frozen BK334.out 0
        have hfz39_1 := blk_frozen BK334.out 1
        go_wp2
        go_meet
        case rel => exact ⟨_, ((t338 == 0)), (by first | rfl | (simp; done) | (simp [*]; done)), H', ⟨by have := HJ5.out; first | omega | exact Nat.le_refl _⟩, ⟨by (with_reducible repeat (first | refine bR ?_ | refine bA ?_ _)); exact BK333.out⟩, ⟨by (with_reducible repeat (first | refine bR ?_ | refine bA ?_ _)); exact BK334.out⟩, ⟨by (with_reducible repeat (first | refine bR ?_ | refine bA ?_ _)); exact BK335.out⟩, ⟨by repeat (first | (with_reducible first | exact HB.out | apply hA | apply hN | apply hD | refine below_set ?_ GE333.out | refine below_set ?_ GE334.out | refine below_set ?_ GE335.out) | exact HB.out)⟩⟩
      · rw [if_neg c34] at H
        have c34b0 : (t336 == 0) = false := beq_eq_false_iff_ne.mpr c34
        have c34b1 : (t336 != 0) = true := bne_iff_ne.mpr c34
        (first | rw [c34b0] | (simp only [i64_w, i32_w]; rw [c34b0]) | skip)
        have H' := aK H
        clear H
        have hnb40 := NB333_334.out
        have hnc40 := NB334_333.out
        have hnb41 := NB333_335.out
        have hnc41 := NB335_333.out
        have hcz42_0 : wc.cell? ⟨gb333, 0, none⟩ = some (.int .i64 t336) := (blk_cell BK333.out 0).trans rfl
        have hcz42_1 : wc.cell? ⟨gb333, 1, none⟩ = some (.int .i64 t337) := (blk_cell BK333.out 1).trans rfl
        have hfz42_0 := blk_frozen BK333.out 0
        have hfz42_1 := blk_frozen BK333.out 1
        go_wp2
        go_meet
        case rel => exact ⟨_, (false), (by first | rfl | (simp; done) | (simp [*]; done)), H', ⟨by have := HJ5.out; first | omega | exact Nat.le_refl _⟩, ⟨by (with_reducible repeat (first | refine bR ?_ | refine bA ?_ _)); exact BK333.out⟩, ⟨by (with_reducible repeat (first | refine bR ?_ | refine bA ?_ _)); exact BK334.out⟩, ⟨by (with_reducible repeat (first | refine bR ?_ | refine bA ?_ _)); exact BK335.out⟩, ⟨by repeat (first | (with_reducible first | exact HB.out | apply hA | apply hN | apply hD | refine below_set ?_ GE333.out | refine below_set ?_ GE334.out | refine below_set ?_ GE335.out) | exact HB.out)⟩⟩
     case rest =>
      clear HC33
      try clear c1
      try clear c2
      try clear p2
      try clear c3
      try clear c4
      try clear c18
      try clear c18b0
      try clear c18b1
      try clear c18b2
      try clear c21
      try clear c27
      try clear c30
      try clear c31
      try clear c32
      try clear c34
      try clear c34b0
      try clear c34b1
      try clear c35
      try clear c36
      try clear c38
      try clear c40
      try clear c41
      try clear c42
      try clear hcz32_0
      try clear hcz32_1
      try clear hcz37_0
      try clear hcz37_1
      try clear hcz39_0
      try clear hcz39_1
      try clear hcz42_0
      try clear hcz42_1
      try clear hfz32_0
      try clear hfz32_1
      try clear hfz37_0
      try clear hfz37_1
      try clear hfz39_0
      try clear hfz39_1
      try clear hfz42_0
      try clear hfz42_1
      try clear p2
      obtain ⟨kq, x35_32, rfl, HA, HJ32, BK333, BK334, BK335, HB⟩ := hcut
      cases kq with
      | zero => exact absurd HA.out (by simp [timeboundref08_Do.j1])
      | succ kj32 =>
       have H := HA.out
       clear HA
       simp only [timeboundref08_Do.j1] at H
       by_cases c43 : x35_32 = true
       · subst c43
         have H1 : ((timeboundref01_Do.f a0 t337 t339).bind fun bt346 => (if bt346.2 = 0 then ((timeboundref08_Of.f bt346.1).bind fun bt348 => (some (bt348.1, bt348.2))) else ((timeboundref08_All.f).bind fun bt350 => (some (bt350.1, bt350.2))))) = some (r1, r2) := by rw [if_pos rfl] at H; exact H
         clear H
         have H := H1
         clear H1
         replace H := Option.bind_eq_some_iff.mp H
         obtain ⟨⟨t346, t347⟩, A440, H⟩ := H
         replace H : (if t347 = 0 then ((timeboundref08_Of.f t346).bind fun bt348 => (some (bt348.1, bt348.2))) else ((timeboundref08_All.f).bind fun bt350 => (some (bt350.1, bt350.2)))) = some (r1, r2) := H
         have A44 := aK A440
         clear A440
         by_cases c45 : t347 = 0
         · rw [if_pos c45] at H
           have c45b0 : (t347 == 0) = true := beq_iff_eq.mpr c45
           have c45b1 : (t347 != 0) = false := bne_eq_false_iff_eq.mpr c45
           clear c45
           replace H := Option.bind_eq_some_iff.mp H
           obtain ⟨⟨t348, t349⟩, A460, H⟩ := H
           replace H : (some (t348, t349)) = some (r1, r2) := H
           have A46 := aK A460
           clear A460
           simp only [Option.some.injEq, Prod.mk.injEq] at H
           obtain ⟨rfl, rfl⟩ := H
           have hnb47 := NB333_334.out
           have hnc47 := NB334_333.out
           have hnb48 := NB333_335.out
           have hnc48 := NB335_333.out
           have hcz49_0 : wc.cell? ⟨gb333, 0, none⟩ = some (.int .i64 t336) := (blk_cell BK333.out 0).trans rfl
           have hcz49_1 : wc.cell? ⟨gb333, 1, none⟩ = some (.int .i64 t337) := (blk_cell BK333.out 1).trans rfl
           have hfz49_0 := blk_frozen BK333.out 0
           have hfz49_1 := blk_frozen BK333.out 1
           have hnb50 := NB334_335.out
           have hnc50 := NB335_334.out
           have hcz51_0 : wc.cell? ⟨gb334, 0, none⟩ = some (.int .i64 t338) := (blk_cell BK334.out 0).trans rfl
           have hcz51_1 : wc.cell? ⟨gb334, 1, none⟩ = some (.int .i64 t339) := (blk_cell BK334.out 1).trans rfl
           have hfz51_0 := blk_frozen BK334.out 0
           have hfz51_1 := blk_frozen BK334.out 1
           go_wp2_with (first | ((with_reducible refine gate_callee (f := 13) rfl ?_); refine goesL_ (some 42) rfl rfl Tryd.func13 (by kernel_rfl) rfl #[.int .i64 a0, .int .i64 t337, .int .i64 t339] rfl (by (try simp only [mA, mB, mC]); first | done | rfl) ?_; (with_reducible refine (timeboundref01_Do.calls a0 t337 t339 t346 t347 _ A44.out).mono ?_); rintro e w52 ⟨rfl, hb⟩; refine ⟨_, rfl, ?_⟩; have n0_ := aK (blk_below (g := gb333) (o := .cells #[.int .i64 t336, .int .i64 t337] 25 (0, 0)) (by (with_reducible repeat (first | refine bR ?_ | refine bA ?_ _)); exact BK333.out) hb); have n1_ := aK (blk_below (g := gb334) (o := .cells #[.int .i64 t338, .int .i64 t339] 25 (0, 0)) (by (with_reducible repeat (first | refine bR ?_ | refine bA ?_ _)); exact BK334.out) hb); have n2_ := aK (blk_below (g := gb335) (o := .cells #[.int .i64 0, .int .i64 0] 25 (0, 0)) (by (with_reducible repeat (first | refine bR ?_ | refine bA ?_ _)); exact BK335.out) hb); have n3_ := aK (below_step (by repeat (first | (with_reducible first | exact HB.out | apply hA | apply hN | apply hD | refine below_set ?_ GE333.out | refine below_set ?_ GE334.out | refine below_set ?_ GE335.out) | exact HB.out)) hb); clear BK333; clear BK334; clear BK335; clear HB; have BK333 := n0_; have BK334 := n1_; have BK335 := n2_; have HB := n3_; clear n0_ n1_ n2_ n3_; (try clear hb); (try clear hb2); (try clear hk); (try clear hi)) | ((with_reducible refine gate_callee (f := 38) rfl ?_); refine goesL_ (some 49) rfl rfl Tryd.func38 (by kernel_rfl) rfl #[.int .i64 t346] rfl (by (try simp only [mA, mB, mC]); first | done | rfl) ?_; (with_reducible refine (timeboundref08_Of.calls t346 t348 t349 _ A46.out).mono ?_); rintro e w53 ⟨rfl, hb⟩; refine ⟨_, rfl, ?_⟩; have n0_ := aK (blk_below (g := gb333) (o := .cells #[.int .i64 t336, .int .i64 t337] 25 (0, 0)) (by (with_reducible repeat (first | refine bR ?_ | refine bA ?_ _)); exact BK333.out) hb); have n1_ := aK (blk_below (g := gb334) (o := .cells #[.int .i64 t338, .int .i64 t339] 25 (0, 0)) (by (with_reducible repeat (first | refine bR ?_ | refine bA ?_ _)); exact BK334.out) hb); have n2_ := aK (blk_below (g := gb335) (o := .cells #[.int .i64 0, .int .i64 0] 25 (0, 0)) (by (with_reducible repeat (first | refine bR ?_ | refine bA ?_ _)); exact BK335.out) hb); have n3_ := aK (below_step (by repeat (first | (with_reducible first | exact HB.out | apply hA | apply hN | apply hD | refine below_set ?_ GE333.out | refine below_set ?_ GE334.out | refine below_set ?_ GE335.out) | exact HB.out)) hb); clear BK333; clear BK334; clear BK335; clear HB; have BK333 := n0_; have BK334 := n1_; have BK335 := n2_; have HB := n3_; clear n0_ n1_ n2_ n3_; (try clear hb); (try clear hb2); (try clear hk); (try clear hi); have hcz54_0 : w53.cell? ⟨gb335, 0, none⟩ = some (.int .i64 0) := (blk_cell BK335.out 0).trans rfl; have hcz54_1 : w53.cell? ⟨gb335, 1, none⟩ = some (.int .i64 0) := (blk_cell BK335.out 1).trans rfl; have hfz54_0 := blk_frozen BK335.out 0; have hfz54_1 := blk_frozen BK335.out 1))
           refine bodyPost_ret (results_cell_row rfl _ _ gb335 25 #[.int .i64 t348, .int .i64 t349] (0, 0) _ rfl (by (with_reducible repeat (first | refine bR ?_ | refine bA ?_ _)); refine blk_put (cs := #[.int .i64 t348, .int .i64 0]) ?_ 1 _ rfl; (with_reducible repeat (first | refine bR ?_ | refine bA ?_ _)); refine blk_put (cs := #[.int .i64 0, .int .i64 0]) ?_ 0 _ rfl; (with_reducible repeat (first | refine bR ?_ | refine bA ?_ _)); exact BK335.out) Tryd.underlying25 rfl (by kernel_rfl)) rfl ?_
           exact ⟨by first | rfl | (simp [errW_none, errW_some] <;> rfl) | (simp [*, errW_none, errW_some] <;> rfl), by repeat (first | (with_reducible first | exact HB.out | apply hA | apply hN | apply hD | refine below_set ?_ GE333.out | refine below_set ?_ GE334.out | refine below_set ?_ GE335.out) | exact HB.out)⟩
         · rw [if_neg c45] at H
           have c45b0 : (t347 == 0) = false := beq_eq_false_iff_ne.mpr c45
           have c45b1 : (t347 != 0) = true := bne_iff_ne.mpr c45
           replace H := Option.bind_eq_some_iff.mp H
           obtain ⟨⟨t350, t351⟩, A550, H⟩ := H
           replace H : (some (t350, t351)) = some (r1, r2) := H
           have A55 := aK A550
           clear A550
           simp only [Option.some.injEq, Prod.mk.injEq] at H
           obtain ⟨rfl, rfl⟩ := H
           have hnb56 := NB333_334.out
           have hnc56 := NB334_333.out
           have hnb57 := NB333_335.out
           have hnc57 := NB335_333.out
           have hcz58_0 : wc.cell? ⟨gb333, 0, none⟩ = some (.int .i64 t336) := (blk_cell BK333.out 0).trans rfl
           have hcz58_1 : wc.cell? ⟨gb333, 1, none⟩ = some (.int .i64 t337) := (blk_cell BK333.out 1).trans rfl
           have hfz58_0 := blk_frozen BK333.out 0
           have hfz58_1 := blk_frozen BK333.out 1
           have hnb59 := NB334_335.out
           have hnc59 := NB335_334.out
           have hcz60_0 : wc.cell? ⟨gb334, 0, none⟩ = some (.int .i64 t338) := (blk_cell BK334.out 0).trans rfl
           have hcz60_1 : wc.cell? ⟨gb334, 1, none⟩ = some (.int .i64 t339) := (blk_cell BK334.out 1).trans rfl
           have hfz60_0 := blk_frozen BK334.out 0
           have hfz60_1 := blk_frozen BK334.out 1
           go_wp2_with (first | ((with_reducible refine gate_callee (f := 13) rfl ?_); refine goesL_ (some 42) rfl rfl Tryd.func13 (by kernel_rfl) rfl #[.int .i64 a0, .int .i64 t337, .int .i64 t339] rfl (by (try simp only [mA, mB, mC]); first | done | rfl) ?_; (with_reducible refine (timeboundref01_Do.calls a0 t337 t339 t346 t347 _ A44.out).mono ?_); rintro e w61 ⟨rfl, hb⟩; refine ⟨_, rfl, ?_⟩; have n0_ := aK (blk_below (g := gb333) (o := .cells #[.int .i64 t336, .int .i64 t337] 25 (0, 0)) (by (with_reducible repeat (first | refine bR ?_ | refine bA ?_ _)); exact BK333.out) hb); have n1_ := aK (blk_below (g := gb334) (o := .cells #[.int .i64 t338, .int .i64 t339] 25 (0, 0)) (by (with_reducible repeat (first | refine bR ?_ | refine bA ?_ _)); exact BK334.out) hb); have n2_ := aK (blk_below (g := gb335) (o := .cells #[.int .i64 0, .int .i64 0] 25 (0, 0)) (by (with_reducible repeat (first | refine bR ?_ | refine bA ?_ _)); exact BK335.out) hb); have n3_ := aK (below_step (by repeat (first | (with_reducible first | exact HB.out | apply hA | apply hN | apply hD | refine below_set ?_ GE333.out | refine below_set ?_ GE334.out | refine below_set ?_ GE335.out) | exact HB.out)) hb); clear BK333; clear BK334; clear BK335; clear HB; have BK333 := n0_; have BK334 := n1_; have BK335 := n2_; have HB := n3_; clear n0_ n1_ n2_ n3_; (try clear hb); (try clear hb2); (try clear hk); (try clear hi)) | ((with_reducible refine gate_callee (f := 20) rfl ?_); refine goesL_ (some 47) rfl rfl Tryd.func20 (by kernel_rfl) rfl #[] rfl (by (try simp only [mA, mB, mC]); first | done | rfl) ?_; (with_reducible refine (timeboundref08_All.calls  t350 t351 _ A55.out).mono ?_); rintro e w62 ⟨rfl, hb⟩; refine ⟨_, rfl, ?_⟩; have n0_ := aK (blk_below (g := gb333) (o := .cells #[.int .i64 t336, .int .i64 t337] 25 (0, 0)) (by (with_reducible repeat (first | refine bR ?_ | refine bA ?_ _)); exact BK333.out) hb); have n1_ := aK (blk_below (g := gb334) (o := .cells #[.int .i64 t338, .int .i64 t339] 25 (0, 0)) (by (with_reducible repeat (first | refine bR ?_ | refine bA ?_ _)); exact BK334.out) hb); have n2_ := aK (blk_below (g := gb335) (o := .cells #[.int .i64 0, .int .i64 0] 25 (0, 0)) (by (with_reducible repeat (first | refine bR ?_ | refine bA ?_ _)); exact BK335.out) hb); have n3_ := aK (below_step (by repeat (first | (with_reducible first | exact HB.out | apply hA | apply hN | apply hD | refine below_set ?_ GE333.out | refine below_set ?_ GE334.out | refine below_set ?_ GE335.out) | exact HB.out)) hb); clear BK333; clear BK334; clear BK335; clear HB; have BK333 := n0_; have BK334 := n1_; have BK335 := n2_; have HB := n3_; clear n0_ n1_ n2_ n3_; (try clear hb); (try clear hb2); (try clear hk); (try clear hi); have hcz63_0 : w62.cell? ⟨gb335, 0, none⟩ = some (.int .i64 0) := (blk_cell BK335.out 0).trans rfl; have hcz63_1 : w62.cell? ⟨gb335, 1, none⟩ = some (.int .i64 0) := (blk_cell BK335.out 1).trans rfl; have hfz63_0 := blk_frozen BK335.out 0; have hfz63_1 := blk_frozen BK335.out 1))
           refine bodyPost_ret (results_cell_row rfl _ _ gb335 25 #[.int .i64 t350, .int .i64 t351] (0, 0) _ rfl (by (with_reducible repeat (first | refine bR ?_ | refine bA ?_ _)); refine blk_put (cs := #[.int .i64 t350, .int .i64 0]) ?_ 1 _ rfl; (with_reducible repeat (first | refine bR ?_ | refine bA ?_ _)); refine blk_put (cs := #[.int .i64 0, .int .i64 0]) ?_ 0 _ rfl; (with_reducible repeat (first | refine bR ?_ | refine bA ?_ _)); exact BK335.out) Tryd.underlying25 rfl (by kernel_rfl)) rfl ?_
           exact ⟨by first | rfl | (simp [errW_none, errW_some] <;> rfl) | (simp [*, errW_none, errW_some] <;> rfl), by repeat (first | (with_reducible first | exact HB.out | apply hA | apply hN | apply hD | refine below_set ?_ GE333.out | refine below_set ?_ GE334.out | refine below_set ?_ GE335.out) | exact HB.out)⟩
       · replace c43 := Bool.eq_false_iff.mpr c43
         subst c43
         have H1 : ((timeboundref08_Bits.f kj32 t336 t337).bind fun t352 => ((timeboundref08_Bits.f kj32 t338 t339).bind fun t353 => (if a0 = 1 then (timeboundref08_Do.j2 kj32 a0 (mn t352 t353) a0 (a0 == 1) t336 t337 t338 t339) else (if a0 = 2 then (timeboundref08_Do.j2 kj32 a0 (mn t352 t353) a0 (a0 == 2) t336 t337 t338 t339) else (if a0 = 3 then (timeboundref08_Do.j2 kj32 a0 (mn t352 t353) a0 (a0 == 3) t336 t337 t338 t339) else (if a0 = 6 then (timeboundref08_Do.j2 kj32 a0 (mn t352 t353) a0 (a0 == 6) t336 t337 t338 t339) else (if a0 = 7 then (timeboundref08_Do.j2 kj32 a0 (mn t352 t353) a0 (a0 == 7) t336 t337 t338 t339) else (timeboundref08_Do.j2 kj32 a0 (mn t352 t353) a0 (a0 == 8) t336 t337 t338 t339)))))))) = some (r1, r2) := by rw [if_neg (show ¬ (false = true) by decide)] at H; exact H
         clear H
         have H := H1
         clear H1
         replace H := Option.bind_eq_some_iff.mp H
         obtain ⟨t352, A640, H⟩ := H
         replace H : ((timeboundref08_Bits.f kj32 t338 t339).bind fun t353 => (if a0 = 1 then (timeboundref08_Do.j2 kj32 a0 (mn t352 t353) a0 (a0 == 1) t336 t337 t338 t339) else (if a0 = 2 then (timeboundref08_Do.j2 kj32 a0 (mn t352 t353) a0 (a0 == 2) t336 t337 t338 t339) else (if a0 = 3 then (timeboundref08_Do.j2 kj32 a0 (mn t352 t353) a0 (a0 == 3) t336 t337 t338 t339) else (if a0 = 6 then (timeboundref08_Do.j2 kj32 a0 (mn t352 t353) a0 (a0 == 6) t336 t337 t338 t339) else (if a0 = 7 then (timeboundref08_Do.j2 kj32 a0 (mn t352 t353) a0 (a0 == 7) t336 t337 t338 t339) else (timeboundref08_Do.j2 kj32 a0 (mn t352 t353) a0 (a0 == 8) t336 t337 t338 t339))))))) = some (r1, r2) := H
         have A64 := aK A640
         clear A640
         replace H := Option.bind_eq_some_iff.mp H
         obtain ⟨t353, A650, H⟩ := H
         replace H : (if a0 = 1 then (timeboundref08_Do.j2 kj32 a0 (mn t352 t353) a0 (a0 == 1) t336 t337 t338 t339) else (if a0 = 2 then (timeboundref08_Do.j2 kj32 a0 (mn t352 t353) a0 (a0 == 2) t336 t337 t338 t339) else (if a0 = 3 then (timeboundref08_Do.j2 kj32 a0 (mn t352 t353) a0 (a0 == 3) t336 t337 t338 t339) else (if a0 = 6 then (timeboundref08_Do.j2 kj32 a0 (mn t352 t353) a0 (a0 == 6) t336 t337 t338 t339) else (if a0 = 7 then (timeboundref08_Do.j2 kj32 a0 (mn t352 t353) a0 (a0 == 7) t336 t337 t338 t339) else (timeboundref08_Do.j2 kj32 a0 (mn t352 t353) a0 (a0 == 8) t336 t337 t338 t339)))))) = some (r1, r2) := H
         have A65 := aK A650
         clear A650
         obtain ⟨ji66, hji66⟩ : ∃ j_ : Int, (mn t352 t353) = j_ := ⟨_, rfl⟩
         replace H : (if a0 = 1 then (timeboundref08_Do.j2 kj32 a0 ji66 a0 (a0 == 1) t336 t337 t338 t339) else (if a0 = 2 then (timeboundref08_Do.j2 kj32 a0 ji66 a0 (a0 == 2) t336 t337 t338 t339) else (if a0 = 3 then (timeboundref08_Do.j2 kj32 a0 ji66 a0 (a0 == 3) t336 t337 t338 t339) else (if a0 = 6 then (timeboundref08_Do.j2 kj32 a0 ji66 a0 (a0 == 6) t336 t337 t338 t339) else (if a0 = 7 then (timeboundref08_Do.j2 kj32 a0 ji66 a0 (a0 == 7) t336 t337 t338 t339) else (timeboundref08_Do.j2 kj32 a0 ji66 a0 (a0 == 8) t336 t337 t338 t339)))))) = some (r1, r2) := by first | (rw [hji66] at H; exact H) | (simp only [hji66] at H ⊢; exact H)
         (try rw [hji66] at A64)
         (try rw [hji66] at A65)
         have hji66_ : (if t353 < t352 then t353 else t352) = ji66 := hji66
         have HC67 := aK H
         clear H
         try go_wp2
         have n0_ := aK (blk_drew BK333.out)
         have n1_ := aK (blk_drew BK334.out)
         have n2_ := aK (blk_drew BK335.out)
         have n3_ := aK (below_drew1 HB.out)
         clear BK333
         clear BK334
         clear BK335
         clear HB
         have BK333 := n0_
         have BK334 := n1_
         have BK335 := n2_
         have HB := n3_
         clear n0_ n1_ n2_ n3_
         refine start_ (n := 6) (S := fun w' => w'.cell? ⟨gb333, 0, none⟩ = some (.int .i64 t336) ∧ w'.cell? ⟨gb333, 1, none⟩ = some (.int .i64 t337) ∧ w'.cell? ⟨gb334, 0, none⟩ = some (.int .i64 t338) ∧ w'.cell? ⟨gb334, 1, none⟩ = some (.int .i64 t339)) (ds := []) #[Z,Z,Z,Z,Z,Z] (by kernel_rfl) rfl rfl ⟨(blk_cell BK333.out 0).trans rfl, (blk_cell BK333.out 1).trans rfl, (blk_cell BK334.out 0).trans rfl, (blk_cell BK334.out 1).trans rfl⟩ (fun hHeld => ?_)
         generalize wc.drew = w68 at BK333 BK334 BK335 HB hHeld ⊢
         refine take_ (i := 0) (N := some 50) (v := ?_) (a' := ?_) #[Y,Z,Z,Z,Z,Z] rfl rfl (by kernel_rfl) (fun _ _ _ h => h) (Or.inl ⟨by rfl, ?_⟩) hHeld ?_ ?_
         rotate_left
         · rintro w' ⟨s0, s1, s2, s3⟩
           go_simp
           with_reducible rfl
         rotate_left
         · simp only [Act.put, sA, sB, sC, i64_w, i32_w]
           rfl
         refine take_ (i := 2) (N := some 52) (v := ?_) (a' := ?_) #[Y,Z,Y,Z,Z,Z] rfl rfl (by kernel_rfl) (fun _ _ _ h => h) (Or.inl ⟨by rfl, ?_⟩) hHeld ?_ ?_
         rotate_left
         · rintro w' ⟨s0, s1, s2, s3⟩
           go_simp
           with_reducible rfl
         rotate_left
         · simp only [Act.put, sA, sB, sC, i64_w, i32_w]
           rfl
         refine one_ (i := 1) (N := some 51) #[Y,Y,Y,Z,Z,Z] rfl rfl (by kernel_rfl) (by decide) (fun K hK => ?_)
         refine goes_ Tryd.func43 (by kernel_rfl) rfl #[.agg #[.int .i64 t336, .int .i64 t337]] (by rfl) rfl rfl (by (try simp only [mA, mB, mC]); first | done | rfl) ?_
         with_reducible refine (timeboundref08_Bits.calls kj32 t336 t337 t352 _ A64.out).mono ?_
         rintro e w69 ⟨rfl, hb⟩
         refine ⟨_, rfl, ?_⟩
         have n0_ := aK (blk_below (g := gb333) (o := .cells #[.int .i64 t336, .int .i64 t337] 25 (0, 0)) (by (with_reducible repeat (first | refine bR ?_ | refine bA ?_ _)); exact BK333.out) hb)
         have n1_ := aK (blk_below (g := gb334) (o := .cells #[.int .i64 t338, .int .i64 t339] 25 (0, 0)) (by (with_reducible repeat (first | refine bR ?_ | refine bA ?_ _)); exact BK334.out) hb)
         have n2_ := aK (blk_below (g := gb335) (o := .cells #[.int .i64 0, .int .i64 0] 25 (0, 0)) (by (with_reducible repeat (first | refine bR ?_ | refine bA ?_ _)); exact BK335.out) hb)
         have n3_ := aK (below_step (by repeat (first | (with_reducible first | exact HB.out | apply hA | apply hN | apply hD | refine below_set ?_ GE333.out | refine below_set ?_ GE334.out | refine below_set ?_ GE335.out) | exact HB.out)) hb)
         clear BK333
         clear BK334
         clear BK335
         clear HB
         have BK333 := n0_
         have BK334 := n1_
         have BK335 := n2_
         have HB := n3_
         clear n0_ n1_ n2_ n3_
         (try clear hb)
         (try clear hb2)
         (try clear hk)
         (try clear hi)
         refine hK.out _ _ ⟨(blk_cell BK333.out 0).trans rfl, (blk_cell BK333.out 1).trans rfl, (blk_cell BK334.out 0).trans rfl, (blk_cell BK334.out 1).trans rfl⟩ (fun hHeld => ?_)
         clear hK K
         refine norm_ (a' := ?_) ?_ ?_
         rotate_left
         · show Act.put _ (some 51) _ = _
           simp only [Act.put, sA, sB, sC, i64_w, i32_w]
           rfl
         refine one_ (i := 3) (N := some 53) #[Y,Y,Y,Y,Z,Z] rfl rfl (by kernel_rfl) (by decide) (fun K hK => ?_)
         refine goes_ Tryd.func43 (by kernel_rfl) rfl #[.agg #[.int .i64 t338, .int .i64 t339]] (by rfl) rfl rfl (by (try simp only [mA, mB, mC]); first | done | rfl) ?_
         with_reducible refine (timeboundref08_Bits.calls kj32 t338 t339 t353 _ A65.out).mono ?_
         rintro e w70 ⟨rfl, hb⟩
         refine ⟨_, rfl, ?_⟩
         have n0_ := aK (blk_below (g := gb333) (o := .cells #[.int .i64 t336, .int .i64 t337] 25 (0, 0)) (by (with_reducible repeat (first | refine bR ?_ | refine bA ?_ _)); exact BK333.out) hb)
         have n1_ := aK (blk_below (g := gb334) (o := .cells #[.int .i64 t338, .int .i64 t339] 25 (0, 0)) (by (with_reducible repeat (first | refine bR ?_ | refine bA ?_ _)); exact BK334.out) hb)
         have n2_ := aK (blk_below (g := gb335) (o := .cells #[.int .i64 0, .int .i64 0] 25 (0, 0)) (by (with_reducible repeat (first | refine bR ?_ | refine bA ?_ _)); exact BK335.out) hb)
         have n3_ := aK (below_step (by repeat (first | (with_reducible first | exact HB.out | apply hA | apply hN | apply hD | refine below_set ?_ GE333.out | refine below_set ?_ GE334.out | refine below_set ?_ GE335.out) | exact HB.out)) hb)
         clear BK333
         clear BK334
         clear BK335
         clear HB
         have BK333 := n0_
         have BK334 := n1_
         have BK335 := n2_
         have HB := n3_
         clear n0_ n1_ n2_ n3_
         (try clear hb)
         (try clear hb2)
         (try clear hk)
         (try clear hi)
         refine hK.out _ _ ⟨(blk_cell BK333.out 0).trans rfl, (blk_cell BK333.out 1).trans rfl, (blk_cell BK334.out 0).trans rfl, (blk_cell BK334.out 1).trans rfl⟩ (fun hHeld => ?_)
         clear hK K
         refine norm_ (a' := ?_) ?_ ?_
         rotate_left
         · show Act.put _ (some 53) _ = _
           simp only [Act.put, sA, sB, sC, i64_w, i32_w]
           rfl
         refine pure_ (i := 4) (N := some 54) (v := ?_) (a' := ?_) #[Y,Y,Y,Y,Y,Z] rfl rfl (by kernel_rfl) (fun _ _ _ h => h) (Or.inl ⟨by rfl, ?_⟩) ?_ ?_
         rotate_left
         · intro w'
           go_simp
           with_reducible rfl
         rotate_left
         · simp only [Act.put, sA, sB, sC, i64_w, i32_w]
           rfl
         refine pure_ (i := 5) (N := some 9) (v := ?_) (a' := ?_) #[Y,Y,Y,Y,Y,Y] rfl rfl (by kernel_rfl) (fun _ _ _ h => h) (Or.inl ⟨by rfl, ?_⟩) ?_ ?_
         rotate_left
         · intro w'
           go_simp
           with_reducible rfl
         rotate_left
         · simp only [Act.put, sA, sB, sC, i64_w, i32_w]
           rfl
         refine done_ (by kernel_rfl) ?_
         go_upto_if 56 with (fail)
         go_cut [56] (fun v56 wc => ∃ (kq : Nat) (x56_66 : Bool), v56 = .bool x56_66 ∧ Aside0 (timeboundref08_Do.j2 kq a0 ji66 a0 x56_66 t336 t337 t338 t339 = some (r1, r2)) ∧ Aside0 (kq ≤ kj32) ∧ Aside0 (wc.heap[gb333]? = some (.cells #[.int .i64 t336, .int .i64 t337] 25 (0, 0))) ∧ Aside0 (wc.heap[gb334]? = some (.cells #[.int .i64 t338, .int .i64 t339] 25 (0, 0))) ∧ Aside0 (wc.heap[gb335]? = some (.cells #[.int .i64 0, .int .i64 0] 25 (0, 0))) ∧ Aside0 (Below w.heap.size w wc))
         case first =>
          have H := HC67.out
          clear HC67
          by_cases c71 : a0 = 1
          · rw [if_pos c71] at H
            have c71b0 : (a0 == 1) = true := beq_iff_eq.mpr c71
            have c71b1 : (a0 != 1) = false := bne_eq_false_iff_eq.mpr c71
            clear c71
            (first | rw [c71b0] | (simp only [i64_w, i32_w]; rw [c71b0]) | skip)
            have H' := aK H
            clear H
            go_wp2
            go_meet
            case rel => exact ⟨_, ((a0 == 1)), (by first | rfl | (simp; done) | (simp [*]; done)), H', ⟨by have := HJ5.out; have := HJ32.out; first | omega | exact Nat.le_refl _⟩, ⟨by (with_reducible repeat (first | refine bR ?_ | refine bA ?_ _)); exact BK333.out⟩, ⟨by (with_reducible repeat (first | refine bR ?_ | refine bA ?_ _)); exact BK334.out⟩, ⟨by (with_reducible repeat (first | refine bR ?_ | refine bA ?_ _)); exact BK335.out⟩, ⟨by repeat (first | (with_reducible first | exact HB.out | apply hA | apply hN | apply hD | refine below_set ?_ GE333.out | refine below_set ?_ GE334.out | refine below_set ?_ GE335.out) | exact HB.out)⟩⟩
          · rw [if_neg c71] at H
            have c71b0 : (a0 == 1) = false := beq_eq_false_iff_ne.mpr c71
            have c71b1 : (a0 != 1) = true := bne_iff_ne.mpr c71
            (first | rw [c71b0] | (simp only [i64_w, i32_w]; rw [c71b0]) | skip)
            by_cases c72 : a0 = 2
            · rw [if_pos c72] at H
              have c72b0 : (a0 == 2) = true := beq_iff_eq.mpr c72
              have c72b1 : (a0 != 2) = false := bne_eq_false_iff_eq.mpr c72
              clear c72
              have H' := aK H
              clear H
              go_wp2
              go_meet
              case rel => exact ⟨_, ((a0 == 2)), (by first | rfl | (simp; done) | (simp [*]; done)), H', ⟨by have := HJ5.out; have := HJ32.out; first | omega | exact Nat.le_refl _⟩, ⟨by (with_reducible repeat (first | refine bR ?_ | refine bA ?_ _)); exact BK333.out⟩, ⟨by (with_reducible repeat (first | refine bR ?_ | refine bA ?_ _)); exact BK334.out⟩, ⟨by (with_reducible repeat (first | refine bR ?_ | refine bA ?_ _)); exact BK335.out⟩, ⟨by repeat (first | (with_reducible first | exact HB.out | apply hA | apply hN | apply hD | refine below_set ?_ GE333.out | refine below_set ?_ GE334.out | refine below_set ?_ GE335.out) | exact HB.out)⟩⟩
            · rw [if_neg c72] at H
              have c72b0 : (a0 == 2) = false := beq_eq_false_iff_ne.mpr c72
              have c72b1 : (a0 != 2) = true := bne_iff_ne.mpr c72
              by_cases c73 : a0 = 3
              · rw [if_pos c73] at H
                have c73b0 : (a0 == 3) = true := beq_iff_eq.mpr c73
                have c73b1 : (a0 != 3) = false := bne_eq_false_iff_eq.mpr c73
                clear c73
                have H' := aK H
                clear H
                go_wp2
                go_meet
                case rel => exact ⟨_, ((a0 == 3)), (by first | rfl | (simp; done) | (simp [*]; done)), H', ⟨by have := HJ5.out; have := HJ32.out; first | omega | exact Nat.le_refl _⟩, ⟨by (with_reducible repeat (first | refine bR ?_ | refine bA ?_ _)); exact BK333.out⟩, ⟨by (with_reducible repeat (first | refine bR ?_ | refine bA ?_ _)); exact BK334.out⟩, ⟨by (with_reducible repeat (first | refine bR ?_ | refine bA ?_ _)); exact BK335.out⟩, ⟨by repeat (first | (with_reducible first | exact HB.out | apply hA | apply hN | apply hD | refine below_set ?_ GE333.out | refine below_set ?_ GE334.out | refine below_set ?_ GE335.out) | exact HB.out)⟩⟩
              · rw [if_neg c73] at H
                have c73b0 : (a0 == 3) = false := beq_eq_false_iff_ne.mpr c73
                have c73b1 : (a0 != 3) = true := bne_iff_ne.mpr c73
                by_cases c74 : a0 = 6
                · rw [if_pos c74] at H
                  have c74b0 : (a0 == 6) = true := beq_iff_eq.mpr c74
                  have c74b1 : (a0 != 6) = false := bne_eq_false_iff_eq.mpr c74
                  clear c74
                  have H' := aK H
                  clear H
                  go_wp2
                  go_meet
                  case rel => exact ⟨_, ((a0 == 6)), (by first | rfl | (simp; done) | (simp [*]; done)), H', ⟨by have := HJ5.out; have := HJ32.out; first | omega | exact Nat.le_refl _⟩, ⟨by (with_reducible repeat (first | refine bR ?_ | refine bA ?_ _)); exact BK333.out⟩, ⟨by (with_reducible repeat (first | refine bR ?_ | refine bA ?_ _)); exact BK334.out⟩, ⟨by (with_reducible repeat (first | refine bR ?_ | refine bA ?_ _)); exact BK335.out⟩, ⟨by repeat (first | (with_reducible first | exact HB.out | apply hA | apply hN | apply hD | refine below_set ?_ GE333.out | refine below_set ?_ GE334.out | refine below_set ?_ GE335.out) | exact HB.out)⟩⟩
                · rw [if_neg c74] at H
                  have c74b0 : (a0 == 6) = false := beq_eq_false_iff_ne.mpr c74
                  have c74b1 : (a0 != 6) = true := bne_iff_ne.mpr c74
                  by_cases c75 : a0 = 7
                  · rw [if_pos c75] at H
                    have c75b0 : (a0 == 7) = true := beq_iff_eq.mpr c75
                    have c75b1 : (a0 != 7) = false := bne_eq_false_iff_eq.mpr c75
                    clear c75
                    have H' := aK H
                    clear H
                    go_wp2
                    go_meet
                    case rel => exact ⟨_, ((a0 == 7)), (by first | rfl | (simp; done) | (simp [*]; done)), H', ⟨by have := HJ5.out; have := HJ32.out; first | omega | exact Nat.le_refl _⟩, ⟨by (with_reducible repeat (first | refine bR ?_ | refine bA ?_ _)); exact BK333.out⟩, ⟨by (with_reducible repeat (first | refine bR ?_ | refine bA ?_ _)); exact BK334.out⟩, ⟨by (with_reducible repeat (first | refine bR ?_ | refine bA ?_ _)); exact BK335.out⟩, ⟨by repeat (first | (with_reducible first | exact HB.out | apply hA | apply hN | apply hD | refine below_set ?_ GE333.out | refine below_set ?_ GE334.out | refine below_set ?_ GE335.out) | exact HB.out)⟩⟩
                  · rw [if_neg c75] at H
                    have c75b0 : (a0 == 7) = false := beq_eq_false_iff_ne.mpr c75
                    have c75b1 : (a0 != 7) = true := bne_iff_ne.mpr c75
                    have H' := aK H
                    clear H
                    go_wp2
                    go_meet
                    case rel => exact ⟨_, ((a0 == 8)), (by first | rfl | (simp; done) | (simp [*]; done)), H', ⟨by have := HJ5.out; have := HJ32.out; first | omega | exact Nat.le_refl _⟩, ⟨by (with_reducible repeat (first | refine bR ?_ | refine bA ?_ _)); exact BK333.out⟩, ⟨by (with_reducible repeat (first | refine bR ?_ | refine bA ?_ _)); exact BK334.out⟩, ⟨by (with_reducible repeat (first | refine bR ?_ | refine bA ?_ _)); exact BK335.out⟩, ⟨by repeat (first | (with_reducible first | exact HB.out | apply hA | apply hN | apply hD | refine below_set ?_ GE333.out | refine below_set ?_ GE334.out | refine below_set ?_ GE335.out) | exact HB.out)⟩⟩
         case rest =>
          clear HC67
          try clear c1
          try clear c2
          try clear p2
          try clear c3
          try clear c4
          try clear c5
          try clear c7
          try clear c13
          try clear c18
          try clear c18b0
          try clear c18b1
          try clear c18b2
          try clear c20
          try clear c21
          try clear c27
          try clear c30
          try clear c31
          try clear c32
          try clear c34
          try clear c34b0
          try clear c34b1
          try clear c35
          try clear c36
          try clear c38
          try clear c40
          try clear c41
          try clear c42
          try clear c43
          try clear c45
          try clear c45b0
          try clear c45b1
          try clear c47
          try clear c48
          try clear c50
          try clear c56
          try clear c57
          try clear c59
          try clear c71
          try clear c71b0
          try clear c71b1
          try clear c72
          try clear c72b0
          try clear c72b1
          try clear c73
          try clear c73b0
          try clear c73b1
          try clear c74
          try clear c74b0
          try clear c74b1
          try clear c75
          try clear c75b0
          try clear c75b1
          try clear hcz32_0
          try clear hcz32_1
          try clear hcz37_0
          try clear hcz37_1
          try clear hcz39_0
          try clear hcz39_1
          try clear hcz42_0
          try clear hcz42_1
          try clear hcz49_0
          try clear hcz49_1
          try clear hcz51_0
          try clear hcz51_1
          try clear hcz54_0
          try clear hcz54_1
          try clear hcz58_0
          try clear hcz58_1
          try clear hcz60_0
          try clear hcz60_1
          try clear hcz63_0
          try clear hcz63_1
          try clear hfz32_0
          try clear hfz32_1
          try clear hfz37_0
          try clear hfz37_1
          try clear hfz39_0
          try clear hfz39_1
          try clear hfz42_0
          try clear hfz42_1
          try clear hfz49_0
          try clear hfz49_1
          try clear hfz51_0
          try clear hfz51_1
          try clear hfz54_0
          try clear hfz54_1
          try clear hfz58_0
          try clear hfz58_1
          try clear hfz60_0
          try clear hfz60_1
          try clear hfz63_0
          try clear hfz63_1
          try clear p2
          obtain ⟨kq, x56_66, rfl, HA, HJ66, BK333, BK334, BK335, HB⟩ := hcut
          cases kq with
          | zero => exact absurd HA.out (by simp [timeboundref08_Do.j2])
          | succ kj66 =>
           have H := HA.out
           clear HA
           simp only [timeboundref08_Do.j2] at H
           by_cases c76 : x56_66 = true
           · subst c76
             have H1 : ((timeboundref01_Do.f a0 t337 t339).bind fun bt354 => ((timeboundref08_low.f bt354.1 ji66).bind fun bt356 => (some (bt356.1, bt356.2)))) = some (r1, r2) := by rw [if_pos rfl] at H; exact H
             clear H
             have H := H1
             clear H1
             replace H := Option.bind_eq_some_iff.mp H
             obtain ⟨⟨t354, t355⟩, A770, H⟩ := H
             replace H : ((timeboundref08_low.f t354 ji66).bind fun bt356 => (some (bt356.1, bt356.2))) = some (r1, r2) := H
             have A77 := aK A770
             clear A770
             replace H := Option.bind_eq_some_iff.mp H
             obtain ⟨⟨t356, t357⟩, A780, H⟩ := H
             replace H : (some (t356, t357)) = some (r1, r2) := H
             have A78 := aK A780
             clear A780
             simp only [Option.some.injEq, Prod.mk.injEq] at H
             obtain ⟨rfl, rfl⟩ := H
             have hnb79 := NB333_334.out
             have hnc79 := NB334_333.out
             have hnb80 := NB333_335.out
             have hnc80 := NB335_333.out
             have hcz81_0 : wc.cell? ⟨gb333, 0, none⟩ = some (.int .i64 t336) := (blk_cell BK333.out 0).trans rfl
             have hcz81_1 : wc.cell? ⟨gb333, 1, none⟩ = some (.int .i64 t337) := (blk_cell BK333.out 1).trans rfl
             have hfz81_0 := blk_frozen BK333.out 0
             have hfz81_1 := blk_frozen BK333.out 1
             have hnb82 := NB334_335.out
             have hnc82 := NB335_334.out
             have hcz83_0 : wc.cell? ⟨gb334, 0, none⟩ = some (.int .i64 t338) := (blk_cell BK334.out 0).trans rfl
             have hcz83_1 : wc.cell? ⟨gb334, 1, none⟩ = some (.int .i64 t339) := (blk_cell BK334.out 1).trans rfl
             have hfz83_0 := blk_frozen BK334.out 0
             have hfz83_1 := blk_frozen BK334.out 1
             go_wp2_with (first | ((with_reducible refine gate_callee (f := 13) rfl ?_); refine goesL_ (some 69) rfl rfl Tryd.func13 (by kernel_rfl) rfl #[.int .i64 a0, .int .i64 t337, .int .i64 t339] rfl (by (try simp only [mA, mB, mC]); first | done | rfl) ?_; (with_reducible refine (timeboundref01_Do.calls a0 t337 t339 t354 t355 _ A77.out).mono ?_); rintro e w84 ⟨rfl, hb⟩; refine ⟨_, rfl, ?_⟩; have n0_ := aK (blk_below (g := gb333) (o := .cells #[.int .i64 t336, .int .i64 t337] 25 (0, 0)) (by (with_reducible repeat (first | refine bR ?_ | refine bA ?_ _)); exact BK333.out) hb); have n1_ := aK (blk_below (g := gb334) (o := .cells #[.int .i64 t338, .int .i64 t339] 25 (0, 0)) (by (with_reducible repeat (first | refine bR ?_ | refine bA ?_ _)); exact BK334.out) hb); have n2_ := aK (blk_below (g := gb335) (o := .cells #[.int .i64 0, .int .i64 0] 25 (0, 0)) (by (with_reducible repeat (first | refine bR ?_ | refine bA ?_ _)); exact BK335.out) hb); have n3_ := aK (below_step (by repeat (first | (with_reducible first | exact HB.out | apply hA | apply hN | apply hD | refine below_set ?_ GE333.out | refine below_set ?_ GE334.out | refine below_set ?_ GE335.out) | exact HB.out)) hb); clear BK333; clear BK334; clear BK335; clear HB; have BK333 := n0_; have BK334 := n1_; have BK335 := n2_; have HB := n3_; clear n0_ n1_ n2_ n3_; (try clear hb); (try clear hb2); (try clear hk); (try clear hi)) | ((with_reducible refine gate_callee (f := 44) rfl ?_); refine goesL_ (some 74) rfl rfl Tryd.func44 (by kernel_rfl) rfl #[.int .i64 t354, .int .i64 ji66] rfl (by (try simp only [mA, mB, mC]); first | done | (simp only [hji66]; rfl) | rfl | (simp only [List.length_drop, List.length_take]; rfl)) ?_; (with_reducible refine (timeboundref08_low.calls t354 ji66 t356 t357 _ A78.out).mono ?_); rintro e w85 ⟨rfl, hb⟩; refine ⟨_, rfl, ?_⟩; have n0_ := aK (blk_below (g := gb333) (o := .cells #[.int .i64 t336, .int .i64 t337] 25 (0, 0)) (by (with_reducible repeat (first | refine bR ?_ | refine bA ?_ _)); exact BK333.out) hb); have n1_ := aK (blk_below (g := gb334) (o := .cells #[.int .i64 t338, .int .i64 t339] 25 (0, 0)) (by (with_reducible repeat (first | refine bR ?_ | refine bA ?_ _)); exact BK334.out) hb); have n2_ := aK (blk_below (g := gb335) (o := .cells #[.int .i64 0, .int .i64 0] 25 (0, 0)) (by (with_reducible repeat (first | refine bR ?_ | refine bA ?_ _)); exact BK335.out) hb); have n3_ := aK (below_step (by repeat (first | (with_reducible first | exact HB.out | apply hA | apply hN | apply hD | refine below_set ?_ GE333.out | refine below_set ?_ GE334.out | refine below_set ?_ GE335.out) | exact HB.out)) hb); clear BK333; clear BK334; clear BK335; clear HB; have BK333 := n0_; have BK334 := n1_; have BK335 := n2_; have HB := n3_; clear n0_ n1_ n2_ n3_; (try clear hb); (try clear hb2); (try clear hk); (try clear hi); have hcz86_0 : w85.cell? ⟨gb335, 0, none⟩ = some (.int .i64 0) := (blk_cell BK335.out 0).trans rfl; have hcz86_1 : w85.cell? ⟨gb335, 1, none⟩ = some (.int .i64 0) := (blk_cell BK335.out 1).trans rfl; have hfz86_0 := blk_frozen BK335.out 0; have hfz86_1 := blk_frozen BK335.out 1))
             refine bodyPost_ret (results_cell_row rfl _ _ gb335 25 #[.int .i64 t356, .int .i64 t357] (0, 0) _ rfl (by (with_reducible repeat (first | refine bR ?_ | refine bA ?_ _)); refine blk_put (cs := #[.int .i64 t356, .int .i64 0]) ?_ 1 _ rfl; (with_reducible repeat (first | refine bR ?_ | refine bA ?_ _)); refine blk_put (cs := #[.int .i64 0, .int .i64 0]) ?_ 0 _ rfl; (with_reducible repeat (first | refine bR ?_ | refine bA ?_ _)); exact BK335.out) Tryd.underlying25 rfl (by kernel_rfl)) rfl ?_
             exact ⟨by first | rfl | (simp [errW_none, errW_some] <;> rfl) | (simp only [← hji66]; first | rfl | (simp [errW_none, errW_some] <;> rfl)) | (simp [*, errW_none, errW_some] <;> rfl), by repeat (first | (with_reducible first | exact HB.out | apply hA | apply hN | apply hD | refine below_set ?_ GE333.out | refine below_set ?_ GE334.out | refine below_set ?_ GE335.out) | exact HB.out)⟩
           · replace c76 := Bool.eq_false_iff.mpr c76
             subst c76
             have H1 : (if a0 = 9 then (if t338 = 0 then ((timeboundref01_Do.f a0 t337 (Go.bits .and .i64 t339 31)).bind fun bt358 => ((timeboundref08_Bits.f kj66 t336 t337).bind fun t360 => ((timeboundref08_low.f bt358.1 (wrap64 (t360 + (Go.bits .and .i64 t339 31)))).bind fun bt361 => (some (bt361.1, bt361.2))))) else ((timeboundref08_All.f).bind fun bt363 => (some (bt363.1, bt363.2)))) else (if a0 = 13 then (timeboundref08_Do.j3 kj66 a0 ji66 (a0 == 13) t336 t337 t338 t339) else (timeboundref08_Do.j3 kj66 a0 ji66 (a0 == 14) t336 t337 t338 t339))) = some (r1, r2) := by rw [if_neg (show ¬ (false = true) by decide)] at H; exact H
             clear H
             have H := H1
             clear H1
             by_cases c87 : a0 = 9
             · rw [if_pos c87] at H
               have c87b0 : (a0 == 9) = true := beq_iff_eq.mpr c87
               have c87b1 : (a0 != 9) = false := bne_eq_false_iff_eq.mpr c87
               clear c87
               by_cases c88 : t338 = 0
               · rw [if_pos c88] at H
                 have c88b0 : (t338 == 0) = true := beq_iff_eq.mpr c88
                 have c88b1 : (t338 != 0) = false := bne_eq_false_iff_eq.mpr c88
                 clear c88
                 replace H := Option.bind_eq_some_iff.mp H
                 obtain ⟨⟨t358, t359⟩, A890, H⟩ := H
                 replace H : ((timeboundref08_Bits.f kj66 t336 t337).bind fun t360 => ((timeboundref08_low.f t358 (wrap64 (t360 + (Go.bits .and .i64 t339 31)))).bind fun bt361 => (some (bt361.1, bt361.2)))) = some (r1, r2) := H
                 have A89 := aK A890
                 clear A890
                 replace H := Option.bind_eq_some_iff.mp H
                 obtain ⟨t360, A900, H⟩ := H
                 replace H : ((timeboundref08_low.f t358 (wrap64 (t360 + (Go.bits .and .i64 t339 31)))).bind fun bt361 => (some (bt361.1, bt361.2))) = some (r1, r2) := H
                 have A90 := aK A900
                 clear A900
                 replace H := Option.bind_eq_some_iff.mp H
                 obtain ⟨⟨t361, t362⟩, A910, H⟩ := H
                 replace H : (some (t361, t362)) = some (r1, r2) := H
                 have A91 := aK A910
                 clear A910
                 simp only [Option.some.injEq, Prod.mk.injEq] at H
                 obtain ⟨rfl, rfl⟩ := H
                 have hnb92 := NB334_333.out
                 have hnc92 := NB333_334.out
                 have hnb93 := NB334_335.out
                 have hnc93 := NB335_334.out
                 have hcz94_0 : wc.cell? ⟨gb334, 0, none⟩ = some (.int .i64 t338) := (blk_cell BK334.out 0).trans rfl
                 have hcz94_1 : wc.cell? ⟨gb334, 1, none⟩ = some (.int .i64 t339) := (blk_cell BK334.out 1).trans rfl
                 have hfz94_0 := blk_frozen BK334.out 0
                 have hfz94_1 := blk_frozen BK334.out 1
                 have hnb95 := NB333_335.out
                 have hnc95 := NB335_333.out
                 have hcz96_0 : wc.cell? ⟨gb333, 0, none⟩ = some (.int .i64 t336) := (blk_cell BK333.out 0).trans rfl
                 have hcz96_1 : wc.cell? ⟨gb333, 1, none⟩ = some (.int .i64 t337) := (blk_cell BK333.out 1).trans rfl
                 have hfz96_0 := blk_frozen BK333.out 0
                 have hfz96_1 := blk_frozen BK333.out 1
                 go_wp2_with (first | ((with_reducible refine gate_callee (f := 13) rfl ?_); refine goesL_ (some 88) rfl rfl Tryd.func13 (by kernel_rfl) rfl #[.int .i64 a0, .int .i64 t337, .int .i64 (Go.bits .and .i64 t339 31)] rfl (by (try simp only [mA, mB, mC]); first | done | rfl) ?_; (with_reducible refine (timeboundref01_Do.calls a0 t337 (Go.bits .and .i64 t339 31) t358 t359 _ A89.out).mono ?_); rintro e w97 ⟨rfl, hb⟩; refine ⟨_, rfl, ?_⟩; have n0_ := aK (blk_below (g := gb333) (o := .cells #[.int .i64 t336, .int .i64 t337] 25 (0, 0)) (by (with_reducible repeat (first | refine bR ?_ | refine bA ?_ _)); exact BK333.out) hb); have n1_ := aK (blk_below (g := gb334) (o := .cells #[.int .i64 t338, .int .i64 t339] 25 (0, 0)) (by (with_reducible repeat (first | refine bR ?_ | refine bA ?_ _)); exact BK334.out) hb); have n2_ := aK (blk_below (g := gb335) (o := .cells #[.int .i64 0, .int .i64 0] 25 (0, 0)) (by (with_reducible repeat (first | refine bR ?_ | refine bA ?_ _)); exact BK335.out) hb); have n3_ := aK (below_step (by repeat (first | (with_reducible first | exact HB.out | apply hA | apply hN | apply hD | refine below_set ?_ GE333.out | refine below_set ?_ GE334.out | refine below_set ?_ GE335.out) | exact HB.out)) hb); clear BK333; clear BK334; clear BK335; clear HB; have BK333 := n0_; have BK334 := n1_; have BK335 := n2_; have HB := n3_; clear n0_ n1_ n2_ n3_; (try clear hb); (try clear hb2); (try clear hk); (try clear hi); have hcz98_0 : w97.cell? ⟨gb333, 0, none⟩ = some (.int .i64 t336) := (blk_cell BK333.out 0).trans rfl; have hcz98_1 : w97.cell? ⟨gb333, 1, none⟩ = some (.int .i64 t337) := (blk_cell BK333.out 1).trans rfl; have hfz98_0 := blk_frozen BK333.out 0; have hfz98_1 := blk_frozen BK333.out 1) | ((with_reducible refine gate_callee (f := 43) rfl ?_); refine goesL_ (some 93) rfl rfl Tryd.func43 (by kernel_rfl) rfl #[.agg #[.int .i64 t336, .int .i64 t337]] rfl (by (try simp only [mA, mB, mC]); first | done | rfl) ?_; (with_reducible refine (timeboundref08_Bits.calls kj66 t336 t337 t360 _ A90.out).mono ?_); rintro e w99 ⟨rfl, hb⟩; refine ⟨_, rfl, ?_⟩; have n0_ := aK (blk_below (g := gb333) (o := .cells #[.int .i64 t336, .int .i64 t337] 25 (0, 0)) (by (with_reducible repeat (first | refine bR ?_ | refine bA ?_ _)); exact BK333.out) hb); have n1_ := aK (blk_below (g := gb334) (o := .cells #[.int .i64 t338, .int .i64 t339] 25 (0, 0)) (by (with_reducible repeat (first | refine bR ?_ | refine bA ?_ _)); exact BK334.out) hb); have n2_ := aK (blk_below (g := gb335) (o := .cells #[.int .i64 0, .int .i64 0] 25 (0, 0)) (by (with_reducible repeat (first | refine bR ?_ | refine bA ?_ _)); exact BK335.out) hb); have n3_ := aK (below_step (by repeat (first | (with_reducible first | exact HB.out | apply hA | apply hN | apply hD | refine below_set ?_ GE333.out | refine below_set ?_ GE334.out | refine below_set ?_ GE335.out) | exact HB.out)) hb); clear BK333; clear BK334; clear BK335; clear HB; have BK333 := n0_; have BK334 := n1_; have BK335 := n2_; have HB := n3_; clear n0_ n1_ n2_ n3_; (try clear hb); (try clear hb2); (try clear hk); (try clear hi)) | ((with_reducible refine gate_callee (f := 44) rfl ?_); refine goesL_ (some 96) rfl rfl Tryd.func44 (by kernel_rfl) rfl #[.int .i64 t358, .int .i64 (wrap64 (t360 + (Go.bits .and .i64 t339 31)))] rfl (by (try simp only [mA, mB, mC]); first | done | rfl) ?_; (with_reducible refine (timeboundref08_low.calls t358 (wrap64 (t360 + (Go.bits .and .i64 t339 31))) t361 t362 _ A91.out).mono ?_); rintro e w100 ⟨rfl, hb⟩; refine ⟨_, rfl, ?_⟩; have n0_ := aK (blk_below (g := gb333) (o := .cells #[.int .i64 t336, .int .i64 t337] 25 (0, 0)) (by (with_reducible repeat (first | refine bR ?_ | refine bA ?_ _)); exact BK333.out) hb); have n1_ := aK (blk_below (g := gb334) (o := .cells #[.int .i64 t338, .int .i64 t339] 25 (0, 0)) (by (with_reducible repeat (first | refine bR ?_ | refine bA ?_ _)); exact BK334.out) hb); have n2_ := aK (blk_below (g := gb335) (o := .cells #[.int .i64 0, .int .i64 0] 25 (0, 0)) (by (with_reducible repeat (first | refine bR ?_ | refine bA ?_ _)); exact BK335.out) hb); have n3_ := aK (below_step (by repeat (first | (with_reducible first | exact HB.out | apply hA | apply hN | apply hD | refine below_set ?_ GE333.out | refine below_set ?_ GE334.out | refine below_set ?_ GE335.out) | exact HB.out)) hb); clear BK333; clear BK334; clear BK335; clear HB; have BK333 := n0_; have BK334 := n1_; have BK335 := n2_; have HB := n3_; clear n0_ n1_ n2_ n3_; (try clear hb); (try clear hb2); (try clear hk); (try clear hi); have hcz101_0 : w100.cell? ⟨gb335, 0, none⟩ = some (.int .i64 0) := (blk_cell BK335.out 0).trans rfl; have hcz101_1 : w100.cell? ⟨gb335, 1, none⟩ = some (.int .i64 0) := (blk_cell BK335.out 1).trans rfl; have hfz101_0 := blk_frozen BK335.out 0; have hfz101_1 := blk_frozen BK335.out 1))
                 refine bodyPost_ret (results_cell_row rfl _ _ gb335 25 #[.int .i64 t361, .int .i64 t362] (0, 0) _ rfl (by (with_reducible repeat (first | refine bR ?_ | refine bA ?_ _)); refine blk_put (cs := #[.int .i64 t361, .int .i64 0]) ?_ 1 _ rfl; (with_reducible repeat (first | refine bR ?_ | refine bA ?_ _)); refine blk_put (cs := #[.int .i64 0, .int .i64 0]) ?_ 0 _ rfl; (with_reducible repeat (first | refine bR ?_ | refine bA ?_ _)); exact BK335.out) Tryd.underlying25 rfl (by kernel_rfl)) rfl ?_
                 exact ⟨by first | rfl | (simp [errW_none, errW_some] <;> rfl) | (simp only [← hji66]; first | rfl | (simp [errW_none, errW_some] <;> rfl)) | (simp [*, errW_none, errW_some] <;> rfl), by repeat (first | (with_reducible first | exact HB.out | apply hA | apply hN | apply hD | refine below_set ?_ GE333.out | refine below_set ?_ GE334.out | refine below_set ?_ GE335.out) | exact HB.out)⟩
               · rw [if_neg c88] at H
                 have c88b0 : (t338 == 0) = false := beq_eq_false_iff_ne.mpr c88
                 have c88b1 : (t338 != 0) = true := bne_iff_ne.mpr c88
                 replace H := Option.bind_eq_some_iff.mp H
                 obtain ⟨⟨t363, t364⟩, A1020, H⟩ := H
                 replace H : (some (t363, t364)) = some (r1, r2) := H
                 have A102 := aK A1020
                 clear A1020
                 simp only [Option.some.injEq, Prod.mk.injEq] at H
                 obtain ⟨rfl, rfl⟩ := H
                 have hnb103 := NB334_333.out
                 have hnc103 := NB333_334.out
                 have hnb104 := NB334_335.out
                 have hnc104 := NB335_334.out
                 have hcz105_0 : wc.cell? ⟨gb334, 0, none⟩ = some (.int .i64 t338) := (blk_cell BK334.out 0).trans rfl
                 have hcz105_1 : wc.cell? ⟨gb334, 1, none⟩ = some (.int .i64 t339) := (blk_cell BK334.out 1).trans rfl
                 have hfz105_0 := blk_frozen BK334.out 0
                 have hfz105_1 := blk_frozen BK334.out 1
                 go_wp2_with (first | ((with_reducible refine gate_callee (f := 20) rfl ?_); refine goesL_ (some 114) rfl rfl Tryd.func20 (by kernel_rfl) rfl #[] rfl (by (try simp only [mA, mB, mC]); first | done | rfl) ?_; (with_reducible refine (timeboundref08_All.calls  t363 t364 _ A102.out).mono ?_); rintro e w106 ⟨rfl, hb⟩; refine ⟨_, rfl, ?_⟩; have n0_ := aK (blk_below (g := gb333) (o := .cells #[.int .i64 t336, .int .i64 t337] 25 (0, 0)) (by (with_reducible repeat (first | refine bR ?_ | refine bA ?_ _)); exact BK333.out) hb); have n1_ := aK (blk_below (g := gb334) (o := .cells #[.int .i64 t338, .int .i64 t339] 25 (0, 0)) (by (with_reducible repeat (first | refine bR ?_ | refine bA ?_ _)); exact BK334.out) hb); have n2_ := aK (blk_below (g := gb335) (o := .cells #[.int .i64 0, .int .i64 0] 25 (0, 0)) (by (with_reducible repeat (first | refine bR ?_ | refine bA ?_ _)); exact BK335.out) hb); have n3_ := aK (below_step (by repeat (first | (with_reducible first | exact HB.out | apply hA | apply hN | apply hD | refine below_set ?_ GE333.out | refine below_set ?_ GE334.out | refine below_set ?_ GE335.out) | exact HB.out)) hb); clear BK333; clear BK334; clear BK335; clear HB; have BK333 := n0_; have BK334 := n1_; have BK335 := n2_; have HB := n3_; clear n0_ n1_ n2_ n3_; (try clear hb); (try clear hb2); (try clear hk); (try clear hi); have hnb107 := NB335_333.out; have hnc107 := NB333_335.out; have hcz108_0 : w106.cell? ⟨gb335, 0, none⟩ = some (.int .i64 0) := (blk_cell BK335.out 0).trans rfl; have hcz108_1 : w106.cell? ⟨gb335, 1, none⟩ = some (.int .i64 0) := (blk_cell BK335.out 1).trans rfl; have hfz108_0 := blk_frozen BK335.out 0; have hfz108_1 := blk_frozen BK335.out 1))
                 refine bodyPost_ret (results_cell_row rfl _ _ gb335 25 #[.int .i64 t363, .int .i64 t364] (0, 0) _ rfl (by (with_reducible repeat (first | refine bR ?_ | refine bA ?_ _)); refine blk_put (cs := #[.int .i64 t363, .int .i64 0]) ?_ 1 _ rfl; (with_reducible repeat (first | refine bR ?_ | refine bA ?_ _)); refine blk_put (cs := #[.int .i64 0, .int .i64 0]) ?_ 0 _ rfl; (with_reducible repeat (first | refine bR ?_ | refine bA ?_ _)); exact BK335.out) Tryd.underlying25 rfl (by kernel_rfl)) rfl ?_
                 exact ⟨by first | rfl | (simp [errW_none, errW_some] <;> rfl) | (simp only [← hji66]; first | rfl | (simp [errW_none, errW_some] <;> rfl)) | (simp [*, errW_none, errW_some] <;> rfl), by repeat (first | (with_reducible first | exact HB.out | apply hA | apply hN | apply hD | refine below_set ?_ GE333.out | refine below_set ?_ GE334.out | refine below_set ?_ GE335.out) | exact HB.out)⟩
             · rw [if_neg c87] at H
               have c87b0 : (a0 == 9) = false := beq_eq_false_iff_ne.mpr c87
               have c87b1 : (a0 != 9) = true := bne_iff_ne.mpr c87
               have HC109 := aK H
               clear H
               go_upto_if 97 with (fail)
               go_cut [97] (fun v97 wc => ∃ (kq : Nat) (x97_108 : Bool), v97 = .bool x97_108 ∧ Aside0 (timeboundref08_Do.j3 kq a0 ji66 x97_108 t336 t337 t338 t339 = some (r1, r2)) ∧ Aside0 (kq ≤ kj66) ∧ Aside0 (wc.heap[gb333]? = some (.cells #[.int .i64 t336, .int .i64 t337] 25 (0, 0))) ∧ Aside0 (wc.heap[gb334]? = some (.cells #[.int .i64 t338, .int .i64 t339] 25 (0, 0))) ∧ Aside0 (wc.heap[gb335]? = some (.cells #[.int .i64 0, .int .i64 0] 25 (0, 0))) ∧ Aside0 (Below w.heap.size w wc))
               case first =>
                have H := HC109.out
                clear HC109
                by_cases c110 : a0 = 13
                · rw [if_pos c110] at H
                  have c110b0 : (a0 == 13) = true := beq_iff_eq.mpr c110
                  have c110b1 : (a0 != 13) = false := bne_eq_false_iff_eq.mpr c110
                  clear c110
                  (first | rw [c110b0] | (simp only [i64_w, i32_w]; rw [c110b0]) | skip)
                  have H' := aK H
                  clear H
                  go_wp2
                  go_meet
                  case rel => exact ⟨_, ((a0 == 13)), (by first | rfl | (simp; done) | (simp [*]; done)), H', ⟨by have := HJ5.out; have := HJ32.out; have := HJ66.out; first | omega | exact Nat.le_refl _⟩, ⟨by (with_reducible repeat (first | refine bR ?_ | refine bA ?_ _)); exact BK333.out⟩, ⟨by (with_reducible repeat (first | refine bR ?_ | refine bA ?_ _)); exact BK334.out⟩, ⟨by (with_reducible repeat (first | refine bR ?_ | refine bA ?_ _)); exact BK335.out⟩, ⟨by repeat (first | (with_reducible first | exact HB.out | apply hA | apply hN | apply hD | refine below_set ?_ GE333.out | refine below_set ?_ GE334.out | refine below_set ?_ GE335.out) | exact HB.out)⟩⟩
                · rw [if_neg c110] at H
                  have c110b0 : (a0 == 13) = false := beq_eq_false_iff_ne.mpr c110
                  have c110b1 : (a0 != 13) = true := bne_iff_ne.mpr c110
                  (first | rw [c110b0] | (simp only [i64_w, i32_w]; rw [c110b0]) | skip)
                  have H' := aK H
                  clear H
                  go_wp2
                  go_meet
                  case rel => exact ⟨_, ((a0 == 14)), (by first | rfl | (simp; done) | (simp [*]; done)), H', ⟨by have := HJ5.out; have := HJ32.out; have := HJ66.out; first | omega | exact Nat.le_refl _⟩, ⟨by (with_reducible repeat (first | refine bR ?_ | refine bA ?_ _)); exact BK333.out⟩, ⟨by (with_reducible repeat (first | refine bR ?_ | refine bA ?_ _)); exact BK334.out⟩, ⟨by (with_reducible repeat (first | refine bR ?_ | refine bA ?_ _)); exact BK335.out⟩, ⟨by repeat (first | (with_reducible first | exact HB.out | apply hA | apply hN | apply hD | refine below_set ?_ GE333.out | refine below_set ?_ GE334.out | refine below_set ?_ GE335.out) | exact HB.out)⟩⟩
               case rest =>
                clear HC109
                try clear c1
                try clear c2
                try clear p2
                try clear c3
                try clear c4
                try clear c5
                try clear p6
                try clear c7
                try clear c8
                try clear c9
                try clear c10
                try clear c11
                try clear c13
                try clear c18
                try clear c18b0
                try clear c18b1
                try clear c18b2
                try clear c20
                try clear c21
                try clear c27
                try clear c30
                try clear c31
                try clear c32
                try clear c34
                try clear c34b0
                try clear c34b1
                try clear c35
                try clear c36
                try clear c38
                try clear c40
                try clear c41
                try clear c42
                try clear c43
                try clear c44
                try clear c45
                try clear c45b0
                try clear c45b1
                try clear c47
                try clear c48
                try clear c50
                try clear c56
                try clear c57
                try clear c59
                try clear p64
                try clear c71
                try clear c71b0
                try clear c71b1
                try clear c72
                try clear c72b0
                try clear c72b1
                try clear c73
                try clear c73b0
                try clear c73b1
                try clear c74
                try clear c74b0
                try clear c74b1
                try clear c75
                try clear c75b0
                try clear c75b1
                try clear c76
                try clear c79
                try clear c80
                try clear c82
                try clear c87
                try clear c87b0
                try clear c87b1
                try clear c88
                try clear c88b0
                try clear c88b1
                try clear c92
                try clear c93
                try clear c95
                try clear c103
                try clear c104
                try clear c107
                try clear c110
                try clear c110b0
                try clear c110b1
                try clear hcz101_0
                try clear hcz101_1
                try clear hcz105_0
                try clear hcz105_1
                try clear hcz108_0
                try clear hcz108_1
                try clear hcz32_0
                try clear hcz32_1
                try clear hcz37_0
                try clear hcz37_1
                try clear hcz39_0
                try clear hcz39_1
                try clear hcz42_0
                try clear hcz42_1
                try clear hcz49_0
                try clear hcz49_1
                try clear hcz51_0
                try clear hcz51_1
                try clear hcz54_0
                try clear hcz54_1
                try clear hcz58_0
                try clear hcz58_1
                try clear hcz60_0
                try clear hcz60_1
                try clear hcz63_0
                try clear hcz63_1
                try clear hcz81_0
                try clear hcz81_1
                try clear hcz83_0
                try clear hcz83_1
                try clear hcz86_0
                try clear hcz86_1
                try clear hcz94_0
                try clear hcz94_1
                try clear hcz96_0
                try clear hcz96_1
                try clear hcz98_0
                try clear hcz98_1
                try clear hfz101_0
                try clear hfz101_1
                try clear hfz105_0
                try clear hfz105_1
                try clear hfz108_0
                try clear hfz108_1
                try clear hfz32_0
                try clear hfz32_1
                try clear hfz37_0
                try clear hfz37_1
                try clear hfz39_0
                try clear hfz39_1
                try clear hfz42_0
                try clear hfz42_1
                try clear hfz49_0
                try clear hfz49_1
                try clear hfz51_0
                try clear hfz51_1
                try clear hfz54_0
                try clear hfz54_1
                try clear hfz58_0
                try clear hfz58_1
                try clear hfz60_0
                try clear hfz60_1
                try clear hfz63_0
                try clear hfz63_1
                try clear hfz81_0
                try clear hfz81_1
                try clear hfz83_0
                try clear hfz83_1
                try clear hfz86_0
                try clear hfz86_1
                try clear hfz94_0
                try clear hfz94_1
                try clear hfz96_0
                try clear hfz96_1
                try clear hfz98_0
                try clear hfz98_1
                try clear p2
                obtain ⟨kq, x97_108, rfl, HA, HJ108, BK333, BK334, BK335, HB⟩ := hcut
                cases kq with
                | zero => exact absurd HA.out (by simp [timeboundref08_Do.j3])
                | succ kj108 =>
                 have H := HA.out
                 clear HA
                 simp only [timeboundref08_Do.j3] at H
                 by_cases c111 : x97_108 = true
                 · subst c111
                   have H1 : (if 0 ≤ (IntKind.u64.wrap (ji66)) then (if (shl .i64 1 (IntKind.u64.wrap (ji66))) = 0 then (none) else (if (Int.tmod (wrap64 (t337 - t339)) (shl .i64 1 (IntKind.u64.wrap (ji66)))) = 0 then ((timeboundref08_All.f).bind fun bt365 => (some (bt365.1, bt365.2))) else (if a0 = 13 then ((timeboundref08_Of.f 0).bind fun bt367 => (some (bt367.1, bt367.2))) else ((timeboundref08_Of.f 1).bind fun bt369 => (some (bt369.1, bt369.2)))))) else (none)) = some (r1, r2) := by rw [if_pos rfl] at H; exact H
                   clear H
                   have H := H1
                   clear H1
                   obtain ⟨ji112, hji112⟩ : ∃ j_ : Int, (IntKind.u64.wrap (ji66)) = j_ := ⟨_, rfl⟩
                   replace H : (if 0 ≤ (ji112) then (if (shl .i64 1 (ji112)) = 0 then (none) else (if (Int.tmod (wrap64 (t337 - t339)) (shl .i64 1 (ji112))) = 0 then ((timeboundref08_All.f).bind fun bt365 => (some (bt365.1, bt365.2))) else (if a0 = 13 then ((timeboundref08_Of.f 0).bind fun bt367 => (some (bt367.1, bt367.2))) else ((timeboundref08_Of.f 1).bind fun bt369 => (some (bt369.1, bt369.2)))))) else (none)) = some (r1, r2) := by first | (rw [hji112] at H; exact H) | (simp only [hji112] at H ⊢; exact H)
                   by_cases c113 : 0 ≤ (ji112)
                   · rw [if_pos c113] at H
                     have c113b0 := eq_true c113
                     have c113b1 : decide (0 ≤ (ji112)) = true := decide_eq_true c113
                     clear c113
                     obtain ⟨ji114, hji114⟩ : ∃ j_ : Int, (shl .i64 1 (ji112)) = j_ := ⟨_, rfl⟩
                     replace H : (if (ji114) = 0 then (none) else (if (Int.tmod (wrap64 (t337 - t339)) (ji114)) = 0 then ((timeboundref08_All.f).bind fun bt365 => (some (bt365.1, bt365.2))) else (if a0 = 13 then ((timeboundref08_Of.f 0).bind fun bt367 => (some (bt367.1, bt367.2))) else ((timeboundref08_Of.f 1).bind fun bt369 => (some (bt369.1, bt369.2)))))) = some (r1, r2) := by first | (rw [hji114] at H; exact H) | (simp only [hji114] at H ⊢; exact H)
                     have hji114_ : (IntKind.i64.wrap (1 * 2 ^ min (ji112).toNat 64)) = ji114 := hji114
                     have hji114z : (ji112) ≤ 64 → (IntKind.i64.wrap (1 * 2 ^ (ji112).toNat)) = ji114 := shl_small hji114
                     have hji114u : (IntKind.i64.wrap (2 ^ min (ji112).toNat 64)) = ji114 := by have h_ := hji114_; rw [Int.one_mul] at h_; exact h_
                     have hji114v : (ji112) ≤ 64 → (IntKind.i64.wrap (2 ^ (ji112).toNat)) = ji114 := fun hle_ => by have h_ := hji114z hle_; rw [Int.one_mul] at h_; exact h_
                     have hji114y : (wrap64 (1 * 2 ^ min (ji112).toNat 64)) = ji114 := (i64_w _).symm.trans hji114_
                     have hji114x : (ji112) ≤ 64 → (wrap64 (1 * 2 ^ (ji112).toNat)) = ji114 := fun h_ => (i64_w _).symm.trans (hji114z h_)
                     by_cases c115 : (ji114) = 0
                     · rw [if_pos c115] at H
                       exact absurd H (by simp)
                     · rw [if_neg c115] at H
                       have c115b0 : ((ji114) == 0) = false := beq_eq_false_iff_ne.mpr c115
                       have c115b1 : ((ji114) != 0) = true := bne_iff_ne.mpr c115
                       by_cases c116 : (Int.tmod (wrap64 (t337 - t339)) (ji114)) = 0
                       · rw [if_pos c116] at H
                         have c116b0 : ((Int.tmod (wrap64 (t337 - t339)) (ji114)) == 0) = true := beq_iff_eq.mpr c116
                         have c116b1 : ((Int.tmod (wrap64 (t337 - t339)) (ji114)) != 0) = false := bne_eq_false_iff_eq.mpr c116
                         clear c116
                         replace H := Option.bind_eq_some_iff.mp H
                         obtain ⟨⟨t365, t366⟩, A1170, H⟩ := H
                         replace H : (some (t365, t366)) = some (r1, r2) := H
                         have A117 := aK A1170
                         clear A1170
                         simp only [Option.some.injEq, Prod.mk.injEq] at H
                         obtain ⟨rfl, rfl⟩ := H
                         have hnb118 := NB333_334.out
                         have hnc118 := NB334_333.out
                         have hnb119 := NB333_335.out
                         have hnc119 := NB335_333.out
                         have hcz120_0 : wc.cell? ⟨gb333, 0, none⟩ = some (.int .i64 t336) := (blk_cell BK333.out 0).trans rfl
                         have hcz120_1 : wc.cell? ⟨gb333, 1, none⟩ = some (.int .i64 t337) := (blk_cell BK333.out 1).trans rfl
                         have hfz120_0 := blk_frozen BK333.out 0
                         have hfz120_1 := blk_frozen BK333.out 1
                         have hnb121 := NB334_335.out
                         have hnc121 := NB335_334.out
                         have hcz122_0 : wc.cell? ⟨gb334, 0, none⟩ = some (.int .i64 t338) := (blk_cell BK334.out 0).trans rfl
                         have hcz122_1 : wc.cell? ⟨gb334, 1, none⟩ = some (.int .i64 t339) := (blk_cell BK334.out 1).trans rfl
                         have hfz122_0 := blk_frozen BK334.out 0
                         have hfz122_1 := blk_frozen BK334.out 1
                         go_wp2_with (first | ((with_reducible refine gate_callee (f := 20) rfl ?_); refine goesL_ (some 114) rfl rfl Tryd.func20 (by kernel_rfl) rfl #[] rfl (by (try simp only [mA, mB, mC]); first | done | rfl) ?_; (with_reducible refine (timeboundref08_All.calls  t365 t366 _ A117.out).mono ?_); rintro e w123 ⟨rfl, hb⟩; refine ⟨_, rfl, ?_⟩; have n0_ := aK (blk_below (g := gb333) (o := .cells #[.int .i64 t336, .int .i64 t337] 25 (0, 0)) (by (with_reducible repeat (first | refine bR ?_ | refine bA ?_ _)); exact BK333.out) hb); have n1_ := aK (blk_below (g := gb334) (o := .cells #[.int .i64 t338, .int .i64 t339] 25 (0, 0)) (by (with_reducible repeat (first | refine bR ?_ | refine bA ?_ _)); exact BK334.out) hb); have n2_ := aK (blk_below (g := gb335) (o := .cells #[.int .i64 0, .int .i64 0] 25 (0, 0)) (by (with_reducible repeat (first | refine bR ?_ | refine bA ?_ _)); exact BK335.out) hb); have n3_ := aK (below_step (by repeat (first | (with_reducible first | exact HB.out | apply hA | apply hN | apply hD | refine below_set ?_ GE333.out | refine below_set ?_ GE334.out | refine below_set ?_ GE335.out) | exact HB.out)) hb); clear BK333; clear BK334; clear BK335; clear HB; have BK333 := n0_; have BK334 := n1_; have BK335 := n2_; have HB := n3_; clear n0_ n1_ n2_ n3_; (try clear hb); (try clear hb2); (try clear hk); (try clear hi); have hcz124_0 : w123.cell? ⟨gb335, 0, none⟩ = some (.int .i64 0) := (blk_cell BK335.out 0).trans rfl; have hcz124_1 : w123.cell? ⟨gb335, 1, none⟩ = some (.int .i64 0) := (blk_cell BK335.out 1).trans rfl; have hfz124_0 := blk_frozen BK335.out 0; have hfz124_1 := blk_frozen BK335.out 1))
                         refine bodyPost_ret (results_cell_row rfl _ _ gb335 25 #[.int .i64 t365, .int .i64 t366] (0, 0) _ rfl (by (with_reducible repeat (first | refine bR ?_ | refine bA ?_ _)); refine blk_put (cs := #[.int .i64 t365, .int .i64 0]) ?_ 1 _ rfl; (with_reducible repeat (first | refine bR ?_ | refine bA ?_ _)); refine blk_put (cs := #[.int .i64 0, .int .i64 0]) ?_ 0 _ rfl; (with_reducible repeat (first | refine bR ?_ | refine bA ?_ _)); exact BK335.out) Tryd.underlying25 rfl (by kernel_rfl)) rfl ?_
                         exact ⟨by first | rfl | (simp [errW_none, errW_some] <;> rfl) | (simp only [← hji66, ← hji112, ← hji114]; first | rfl | (simp [errW_none, errW_some] <;> rfl)) | (simp [*, errW_none, errW_some] <;> rfl), by repeat (first | (with_reducible first | exact HB.out | apply hA | apply hN | apply hD | refine below_set ?_ GE333.out | refine below_set ?_ GE334.out | refine below_set ?_ GE335.out) | exact HB.out)⟩
                       · rw [if_neg c116] at H
                         have c116b0 : ((Int.tmod (wrap64 (t337 - t339)) (ji114)) == 0) = false := beq_eq_false_iff_ne.mpr c116
                         have c116b1 : ((Int.tmod (wrap64 (t337 - t339)) (ji114)) != 0) = true := bne_iff_ne.mpr c116
                         by_cases c125 : a0 = 13
                         · rw [if_pos c125] at H
                           have c125b0 : (a0 == 13) = true := beq_iff_eq.mpr c125
                           have c125b1 : (a0 != 13) = false := bne_eq_false_iff_eq.mpr c125
                           clear c125
                           replace H := Option.bind_eq_some_iff.mp H
                           obtain ⟨⟨t367, t368⟩, A1260, H⟩ := H
                           replace H : (some (t367, t368)) = some (r1, r2) := H
                           have A126 := aK A1260
                           clear A1260
                           simp only [Option.some.injEq, Prod.mk.injEq] at H
                           obtain ⟨rfl, rfl⟩ := H
                           have hnb127 := NB333_334.out
                           have hnc127 := NB334_333.out
                           have hnb128 := NB333_335.out
                           have hnc128 := NB335_333.out
                           have hcz129_0 : wc.cell? ⟨gb333, 0, none⟩ = some (.int .i64 t336) := (blk_cell BK333.out 0).trans rfl
                           have hcz129_1 : wc.cell? ⟨gb333, 1, none⟩ = some (.int .i64 t337) := (blk_cell BK333.out 1).trans rfl
                           have hfz129_0 := blk_frozen BK333.out 0
                           have hfz129_1 := blk_frozen BK333.out 1
                           have hnb130 := NB334_335.out
                           have hnc130 := NB335_334.out
                           have hcz131_0 : wc.cell? ⟨gb334, 0, none⟩ = some (.int .i64 t338) := (blk_cell BK334.out 0).trans rfl
                           have hcz131_1 : wc.cell? ⟨gb334, 1, none⟩ = some (.int .i64 t339) := (blk_cell BK334.out 1).trans rfl
                           have hfz131_0 := blk_frozen BK334.out 0
                           have hfz131_1 := blk_frozen BK334.out 1
                           go_wp2_with (first | ((with_reducible refine gate_callee (f := 38) rfl ?_); refine goesL_ (some 112) rfl rfl Tryd.func38 (by kernel_rfl) rfl #[.int .i64 0] rfl (by (try simp only [mA, mB, mC]); first | done | rfl) ?_; (with_reducible refine (timeboundref08_Of.calls 0 t367 t368 _ A126.out).mono ?_); rintro e w132 ⟨rfl, hb⟩; refine ⟨_, rfl, ?_⟩; have n0_ := aK (blk_below (g := gb333) (o := .cells #[.int .i64 t336, .int .i64 t337] 25 (0, 0)) (by (with_reducible repeat (first | refine bR ?_ | refine bA ?_ _)); exact BK333.out) hb); have n1_ := aK (blk_below (g := gb334) (o := .cells #[.int .i64 t338, .int .i64 t339] 25 (0, 0)) (by (with_reducible repeat (first | refine bR ?_ | refine bA ?_ _)); exact BK334.out) hb); have n2_ := aK (blk_below (g := gb335) (o := .cells #[.int .i64 0, .int .i64 0] 25 (0, 0)) (by (with_reducible repeat (first | refine bR ?_ | refine bA ?_ _)); exact BK335.out) hb); have n3_ := aK (below_step (by repeat (first | (with_reducible first | exact HB.out | apply hA | apply hN | apply hD | refine below_set ?_ GE333.out | refine below_set ?_ GE334.out | refine below_set ?_ GE335.out) | exact HB.out)) hb); clear BK333; clear BK334; clear BK335; clear HB; have BK333 := n0_; have BK334 := n1_; have BK335 := n2_; have HB := n3_; clear n0_ n1_ n2_ n3_; (try clear hb); (try clear hb2); (try clear hk); (try clear hi); have hcz133_0 : w132.cell? ⟨gb335, 0, none⟩ = some (.int .i64 0) := (blk_cell BK335.out 0).trans rfl; have hcz133_1 : w132.cell? ⟨gb335, 1, none⟩ = some (.int .i64 0) := (blk_cell BK335.out 1).trans rfl; have hfz133_0 := blk_frozen BK335.out 0; have hfz133_1 := blk_frozen BK335.out 1))
                           refine bodyPost_ret (results_cell_row rfl _ _ gb335 25 #[.int .i64 t367, .int .i64 t368] (0, 0) _ rfl (by (with_reducible repeat (first | refine bR ?_ | refine bA ?_ _)); refine blk_put (cs := #[.int .i64 t367, .int .i64 0]) ?_ 1 _ rfl; (with_reducible repeat (first | refine bR ?_ | refine bA ?_ _)); refine blk_put (cs := #[.int .i64 0, .int .i64 0]) ?_ 0 _ rfl; (with_reducible repeat (first | refine bR ?_ | refine bA ?_ _)); exact BK335.out) Tryd.underlying25 rfl (by kernel_rfl)) rfl ?_
                           exact ⟨by first | rfl | (simp [errW_none, errW_some] <;> rfl) | (simp only [← hji66, ← hji112, ← hji114]; first | rfl | (simp [errW_none, errW_some] <;> rfl)) | (simp [*, errW_none, errW_some] <;> rfl), by repeat (first | (with_reducible first | exact HB.out | apply hA | apply hN | apply hD | refine below_set ?_ GE333.out | refine below_set ?_ GE334.out | refine below_set ?_ GE335.out) | exact HB.out)⟩
                         · rw [if_neg c125] at H
                           have c125b0 : (a0 == 13) = false := beq_eq_false_iff_ne.mpr c125
                           have c125b1 : (a0 != 13) = true := bne_iff_ne.mpr c125
                           replace H := Option.bind_eq_some_iff.mp H
                           obtain ⟨⟨t369, t370⟩, A1340, H⟩ := H
                           replace H : (some (t369, t370)) = some (r1, r2) := H
                           have A134 := aK A1340
                           clear A1340
                           simp only [Option.some.injEq, Prod.mk.injEq] at H
                           obtain ⟨rfl, rfl⟩ := H
                           have hnb135 := NB333_334.out
                           have hnc135 := NB334_333.out
                           have hnb136 := NB333_335.out
                           have hnc136 := NB335_333.out
                           have hcz137_0 : wc.cell? ⟨gb333, 0, none⟩ = some (.int .i64 t336) := (blk_cell BK333.out 0).trans rfl
                           have hcz137_1 : wc.cell? ⟨gb333, 1, none⟩ = some (.int .i64 t337) := (blk_cell BK333.out 1).trans rfl
                           have hfz137_0 := blk_frozen BK333.out 0
                           have hfz137_1 := blk_frozen BK333.out 1
                           have hnb138 := NB334_335.out
                           have hnc138 := NB335_334.out
                           have hcz139_0 : wc.cell? ⟨gb334, 0, none⟩ = some (.int .i64 t338) := (blk_cell BK334.out 0).trans rfl
                           have hcz139_1 : wc.cell? ⟨gb334, 1, none⟩ = some (.int .i64 t339) := (blk_cell BK334.out 1).trans rfl
                           have hfz139_0 := blk_frozen BK334.out 0
                           have hfz139_1 := blk_frozen BK334.out 1
                           go_wp2_with (first | ((with_reducible refine gate_callee (f := 38) rfl ?_); refine goesL_ (some 113) rfl rfl Tryd.func38 (by kernel_rfl) rfl #[.int .i64 1] rfl (by (try simp only [mA, mB, mC]); first | done | rfl) ?_; (with_reducible refine (timeboundref08_Of.calls 1 t369 t370 _ A134.out).mono ?_); rintro e w140 ⟨rfl, hb⟩; refine ⟨_, rfl, ?_⟩; have n0_ := aK (blk_below (g := gb333) (o := .cells #[.int .i64 t336, .int .i64 t337] 25 (0, 0)) (by (with_reducible repeat (first | refine bR ?_ | refine bA ?_ _)); exact BK333.out) hb); have n1_ := aK (blk_below (g := gb334) (o := .cells #[.int .i64 t338, .int .i64 t339] 25 (0, 0)) (by (with_reducible repeat (first | refine bR ?_ | refine bA ?_ _)); exact BK334.out) hb); have n2_ := aK (blk_below (g := gb335) (o := .cells #[.int .i64 0, .int .i64 0] 25 (0, 0)) (by (with_reducible repeat (first | refine bR ?_ | refine bA ?_ _)); exact BK335.out) hb); have n3_ := aK (below_step (by repeat (first | (with_reducible first | exact HB.out | apply hA | apply hN | apply hD | refine below_set ?_ GE333.out | refine below_set ?_ GE334.out | refine below_set ?_ GE335.out) | exact HB.out)) hb); clear BK333; clear BK334; clear BK335; clear HB; have BK333 := n0_; have BK334 := n1_; have BK335 := n2_; have HB := n3_; clear n0_ n1_ n2_ n3_; (try clear hb); (try clear hb2); (try clear hk); (try clear hi); have hcz141_0 : w140.cell? ⟨gb335, 0, none⟩ = some (.int .i64 0) := (blk_cell BK335.out 0).trans rfl; have hcz141_1 : w140.cell? ⟨gb335, 1, none⟩ = some (.int .i64 0) := (blk_cell BK335.out 1).trans rfl; have hfz141_0 := blk_frozen BK335.out 0; have hfz141_1 := blk_frozen BK335.out 1))
                           refine bodyPost_ret (results_cell_row rfl _ _ gb335 25 #[.int .i64 t369, .int .i64 t370] (0, 0) _ rfl (by (with_reducible repeat (first | refine bR ?_ | refine bA ?_ _)); refine blk_put (cs := #[.int .i64 t369, .int .i64 0]) ?_ 1 _ rfl; (with_reducible repeat (first | refine bR ?_ | refine bA ?_ _)); refine blk_put (cs := #[.int .i64 0, .int .i64 0]) ?_ 0 _ rfl; (with_reducible repeat (first | refine bR ?_ | refine bA ?_ _)); exact BK335.out) Tryd.underlying25 rfl (by kernel_rfl)) rfl ?_
                           exact ⟨by first | rfl | (simp [errW_none, errW_some] <;> rfl) | (simp only [← hji66, ← hji112, ← hji114]; first | rfl | (simp [errW_none, errW_some] <;> rfl)) | (simp [*, errW_none, errW_some] <;> rfl), by repeat (first | (with_reducible first | exact HB.out | apply hA | apply hN | apply hD | refine below_set ?_ GE333.out | refine below_set ?_ GE334.out | refine below_set ?_ GE335.out) | exact HB.out)⟩
                   · rw [if_neg c113] at H
                     exact absurd H (by simp)
                 · replace c111 := Bool.eq_false_iff.mpr c111
                   subst c111
                   have H1 : ((timeboundref08_All.f).bind fun bt371 => (some (bt371.1, bt371.2))) = some (r1, r2) := by rw [if_neg (show ¬ (false = true) by decide)] at H; exact H
                   clear H
                   have H := H1
                   clear H1
                   replace H := Option.bind_eq_some_iff.mp H
                   obtain ⟨⟨t371, t372⟩, A1420, H⟩ := H
                   replace H : (some (t371, t372)) = some (r1, r2) := H
                   have A142 := aK A1420
                   clear A1420
                   simp only [Option.some.injEq, Prod.mk.injEq] at H
                   obtain ⟨rfl, rfl⟩ := H
                   go_wp2_with (first | ((with_reducible refine gate_callee (f := 20) rfl ?_); refine goesL_ (some 114) rfl rfl Tryd.func20 (by kernel_rfl) rfl #[] rfl (by (try simp only [mA, mB, mC]); first | done | rfl) ?_; (with_reducible refine (timeboundref08_All.calls  t371 t372 _ A142.out).mono ?_); rintro e w143 ⟨rfl, hb⟩; refine ⟨_, rfl, ?_⟩; have n0_ := aK (blk_below (g := gb333) (o := .cells #[.int .i64 t336, .int .i64 t337] 25 (0, 0)) (by (with_reducible repeat (first | refine bR ?_ | refine bA ?_ _)); exact BK333.out) hb); have n1_ := aK (blk_below (g := gb334) (o := .cells #[.int .i64 t338, .int .i64 t339] 25 (0, 0)) (by (with_reducible repeat (first | refine bR ?_ | refine bA ?_ _)); exact BK334.out) hb); have n2_ := aK (blk_below (g := gb335) (o := .cells #[.int .i64 0, .int .i64 0] 25 (0, 0)) (by (with_reducible repeat (first | refine bR ?_ | refine bA ?_ _)); exact BK335.out) hb); have n3_ := aK (below_step (by repeat (first | (with_reducible first | exact HB.out | apply hA | apply hN | apply hD | refine below_set ?_ GE333.out | refine below_set ?_ GE334.out | refine below_set ?_ GE335.out) | exact HB.out)) hb); clear BK333; clear BK334; clear BK335; clear HB; have BK333 := n0_; have BK334 := n1_; have BK335 := n2_; have HB := n3_; clear n0_ n1_ n2_ n3_; (try clear hb); (try clear hb2); (try clear hk); (try clear hi); have hnb144 := NB335_333.out; have hnc144 := NB333_335.out; have hnb145 := NB335_334.out; have hnc145 := NB334_335.out; have hcz146_0 : w143.cell? ⟨gb335, 0, none⟩ = some (.int .i64 0) := (blk_cell BK335.out 0).trans rfl; have hcz146_1 : w143.cell? ⟨gb335, 1, none⟩ = some (.int .i64 0) := (blk_cell BK335.out 1).trans rfl; have hfz146_0 := blk_frozen BK335.out 0; have hfz146_1 := blk_frozen BK335.out 1))
                   refine bodyPost_ret (results_cell_row rfl _ _ gb335 25 #[.int .i64 t371, .int .i64 t372] (0, 0) _ rfl (by (with_reducible repeat (first | refine bR ?_ | refine bA ?_ _)); refine blk_put (cs := #[.int .i64 t371, .int .i64 0]) ?_ 1 _ rfl; (with_reducible repeat (first | refine bR ?_ | refine bA ?_ _)); refine blk_put (cs := #[.int .i64 0, .int .i64 0]) ?_ 0 _ rfl; (with_reducible repeat (first | refine bR ?_ | refine bA ?_ _)); exact BK335.out) Tryd.underlying25 rfl (by kernel_rfl)) rfl ?_
                   exact ⟨by first | rfl | (simp [errW_none, errW_some] <;> rfl) | (simp only [← hji66]; first | rfl | (simp [errW_none, errW_some] <;> rfl)) | (simp [*, errW_none, errW_some] <;> rfl), by repeat (first | (with_reducible first | exact HB.out | apply hA | apply hN | apply hD | refine below_set ?_ GE333.out | refine below_set ?_ GE334.out | refine below_set ?_ GE335.out) | exact HB.out)⟩
end Go.Proofs.YtaphfmbloappkaaDoorG.PAll
