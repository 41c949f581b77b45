-- The walks of some functions, printed by a program for this claim.
import Derived.Test.YtaphfmbloappkaaDoorPAllx0
import Derived.Test.YtaphfmbloappkaaDoorPAllx1
import Derived.Test.YtaphfmbloappkaaDoorPAllx2
namespace Go.Proofs.YtaphfmbloappkaaDoorG.PAll
open Go.RowKit Go.Proofs.YtaphfmbloappkaaDoorW.PrintWords Go.Proofs.YtaphfmbloappkaaDoorW.PrintLast Go.Proofs.YtaphfmbloappkaaDoorW.PrintMore
attribute [local go_sem] max2_int min2_int max_two min_two max_three min_three max_four min_four   -- for this text's walks alone
set_option linter.unusedVariables false
set_option linter.unusedSimpArgs false
attribute [local go_sem high] eqA25
/-! ### congruence_Do: function 10 -/
mutual
def congruence_Do.j0 : Nat → Int → Bool → Int → Int → Int → Int → Option (Int × Int)
 | 0, _, _, _, _, _, _ => none
 | k + 1, x0, x22, x123000, x123001, x124000, x124001 => if x22 = true then ((congruence_None.f).bind fun bt133 => (some (bt133.1, bt133.2))) else ((word_Do.f x0 x123001 x124001).bind fun bt135 => (if bt135.2 = 0 then (if x123000 = 0 then (congruence_Do.j1 k x0 bt135.1 (x124000 == 0) x123000 x123001 x124000 x124001) else (congruence_Do.j1 k x0 bt135.1 false x123000 x123001 x124000 x124001)) else ((congruence_All.f).bind fun bt137 => (some (bt137.1, bt137.2)))))
def congruence_Do.j1 : Nat → Int → Int → Bool → Int → Int → Int → Int → Option (Int × Int)
 | 0, _, _, _, _, _, _, _ => none
 | k + 1, x0, x7, x43, x123000, x123001, x124000, x124001 => if x43 = true then ((congruence_Of.f x7).bind fun bt139 => (some (bt139.1, bt139.2))) else ((congruence_width.f x123000 x123001).bind fun t141 => ((congruence_width.f x124000 x124001).bind fun t142 => (if x0 = 1 then (congruence_Do.j2 k x0 x7 (mn t141 t142) x0 (x0 == 1) x123000 x123001 x124000 x124001) else (if x0 = 2 then (congruence_Do.j2 k x0 x7 (mn t141 t142) x0 (x0 == 2) x123000 x123001 x124000 x124001) else (if x0 = 3 then (congruence_Do.j2 k x0 x7 (mn t141 t142) x0 (x0 == 3) x123000 x123001 x124000 x124001) else (if x0 = 6 then (congruence_Do.j2 k x0 x7 (mn t141 t142) x0 (x0 == 6) x123000 x123001 x124000 x124001) else (if x0 = 7 then (congruence_Do.j2 k x0 x7 (mn t141 t142) x0 (x0 == 7) x123000 x123001 x124000 x124001) else (congruence_Do.j2 k x0 x7 (mn t141 t142) x0 (x0 == 8) x123000 x123001 x124000 x124001))))))))
def congruence_Do.j2 : Nat → Int → Int → Int → Int → Bool → Int → Int → Int → Int → Option (Int × Int)
 | 0, _, _, _, _, _, _, _, _, _ => none
 | k + 1, x0, x7, x9, x51, x52, x123000, x123001, x124000, x124001 => if x52 = true then ((congruence_modulo.f x7 x9).bind fun bt143 => (some (bt143.1, bt143.2))) else (if x51 = 9 then (if x124000 = 0 then (if 0 ≤ (Go.bits .and .i64 x124001 31) then ((congruence_width.f x123000 x123001).bind fun t145 => ((congruence_modulo.f (shl .i64 x123001 (Go.bits .and .i64 x124001 31)) (wrap64 (t145 + (Go.bits .and .i64 x124001 31)))).bind fun bt146 => (some (bt146.1, bt146.2)))) else (none)) else ((congruence_All.f).bind fun bt148 => (some (bt148.1, bt148.2)))) else (if x51 = 13 then (congruence_Do.j3 k x0 x9 (x51 == 13) x123000 x123001 x124000 x124001) else (congruence_Do.j3 k x0 x9 (x51 == 14) x123000 x123001 x124000 x124001)))
def congruence_Do.j3 : Nat → Int → Int → Bool → Int → Int → Int → Int → Option (Int × Int)
 | 0, _, _, _, _, _, _, _ => none
 | k + 1, x0, x9, x79, x123000, x123001, x124000, x124001 => if x79 = true then (if 0 ≤ x9 then (if (shl .i64 1 x9) = 0 then (none) else (if (Int.tmod (wrap64 (x123001 - x124001)) (shl .i64 1 x9)) = 0 then ((congruence_All.f).bind fun bt150 => (some (bt150.1, bt150.2))) else ((congruence_Of.f (wrap64 (x0 - 13))).bind fun bt152 => (some (bt152.1, bt152.2))))) else (none)) else ((congruence_All.f).bind fun bt154 => (some (bt154.1, bt154.2)))
end
def congruence_Do.f (k : Nat) (a0 : Int) (a1_0 : Int) (a1_1 : Int) (a2_0 : Int) (a2_1 : Int) : Option (Int × Int) := (congruence_Fix.f a1_0 a1_1).bind fun bt125 => ((congruence_Fix.f a2_0 a2_1).bind fun bt127 => ((congruence_None.f).bind fun bt129 => (if (bt125.1 == bt129.1 && (bt125.2 == bt129.2)) = true then (congruence_Do.j0 k a0 true bt125.1 bt125.2 bt127.1 bt127.2) else ((congruence_None.f).bind fun bt131 => (congruence_Do.j0 k a0 (bt127.1 == bt131.1 && (bt127.2 == bt131.2)) bt125.1 bt125.2 bt127.1 bt127.2)))))
theorem congruence_Do.mono_l : ∀ k, (∀ y0 y1 y2 y3 y4 y5, LeO (congruence_Do.j0 k y0 y1 y2 y3 y4 y5) (congruence_Do.j0 (k + 1) y0 y1 y2 y3 y4 y5)) ∧ (∀ y0 y1 y2 y3 y4 y5 y6, LeO (congruence_Do.j1 k y0 y1 y2 y3 y4 y5 y6) (congruence_Do.j1 (k + 1) y0 y1 y2 y3 y4 y5 y6)) ∧ (∀ y0 y1 y2 y3 y4 y5 y6 y7 y8, LeO (congruence_Do.j2 k y0 y1 y2 y3 y4 y5 y6 y7 y8) (congruence_Do.j2 (k + 1) y0 y1 y2 y3 y4 y5 y6 y7 y8)) ∧ (∀ y0 y1 y2 y3 y4 y5 y6, LeO (congruence_Do.j3 k y0 y1 y2 y3 y4 y5 y6) (congruence_Do.j3 (k + 1) y0 y1 y2 y3 y4 y5 y6))
 | 0 => ⟨fun _ _ _ _ _ _ r h => by simp [congruence_Do.j0] at h, fun _ _ _ _ _ _ _ r h => by simp [congruence_Do.j1] at h, fun _ _ _ _ _ _ _ _ _ r h => by simp [congruence_Do.j2] at h, fun _ _ _ _ _ _ _ r h => by simp [congruence_Do.j3] at h⟩
 | k + 1 => by
  obtain ⟨ih0, ih1, ih2, ih3⟩ := congruence_Do.mono_l k
  refine ⟨?_, ?_, ?_, ?_⟩
  · intro y0 y1 y2 y3 y4 y5
    unfold congruence_Do.j0
    repeat' first
    | (with_reducible exact ih0 _ _ _ _ _ _)
    | (with_reducible exact ih1 _ _ _ _ _ _ _)
    | (with_reducible exact ih2 _ _ _ _ _ _ _ _ _)
    | (with_reducible exact ih3 _ _ _ _ _ _ _)
    | (with_reducible exact LeO.refl _)
    | (with_reducible exact LeO.none _)
    | (with_reducible refine LeO.ite ?_ ?_)
    | (with_reducible refine LeO.bind ?_ (fun _ => ?_))
    | exact ih0 _ _ _ _ _ _
    | exact ih1 _ _ _ _ _ _ _
    | exact ih2 _ _ _ _ _ _ _ _ _
    | exact ih3 _ _ _ _ _ _ _
    | exact LeO.none _
    | refine LeO.ite ?_ ?_
    | refine LeO.bind ?_ (fun _ => ?_)
  · intro y0 y1 y2 y3 y4 y5 y6
    unfold congruence_Do.j1
    repeat' first
    | (with_reducible exact ih0 _ _ _ _ _ _)
    | (with_reducible exact ih1 _ _ _ _ _ _ _)
    | (with_reducible exact ih2 _ _ _ _ _ _ _ _ _)
    | (with_reducible exact ih3 _ _ _ _ _ _ _)
    | (with_reducible exact LeO.refl _)
    | (with_reducible exact LeO.none _)
    | (with_reducible refine LeO.ite ?_ ?_)
    | (with_reducible refine LeO.bind ?_ (fun _ => ?_))
    | exact ih0 _ _ _ _ _ _
    | exact ih1 _ _ _ _ _ _ _
    | exact ih2 _ _ _ _ _ _ _ _ _
    | exact ih3 _ _ _ _ _ _ _
    | exact LeO.none _
    | refine LeO.ite ?_ ?_
    | refine LeO.bind ?_ (fun _ => ?_)
  · intro y0 y1 y2 y3 y4 y5 y6 y7 y8
    unfold congruence_Do.j2
    repeat' first
    | (with_reducible exact ih0 _ _ _ _ _ _)
    | (with_reducible exact ih1 _ _ _ _ _ _ _)
    | (with_reducible exact ih2 _ _ _ _ _ _ _ _ _)
    | (with_reducible exact ih3 _ _ _ _ _ _ _)
    | (with_reducible exact LeO.refl _)
    | (with_reducible exact LeO.none _)
    | (with_reducible refine LeO.ite ?_ ?_)
    | (with_reducible refine LeO.bind ?_ (fun _ => ?_))
    | exact ih0 _ _ _ _ _ _
    | exact ih1 _ _ _ _ _ _ _
    | exact ih2 _ _ _ _ _ _ _ _ _
    | exact ih3 _ _ _ _ _ _ _
    | exact LeO.none _
    | refine LeO.ite ?_ ?_
    | refine LeO.bind ?_ (fun _ => ?_)
  · intro y0 y1 y2 y3 y4 y5 y6
    unfold congruence_Do.j3
    repeat' first
    | (with_reducible exact ih0 _ _ _ _ _ _)
    | (with_reducible exact ih1 _ _ _ _ _ _ _)
    | (with_reducible exact ih2 _ _ _ _ _ _ _ _ _)
    | (with_reducible exact ih3 _ _ _ _ _ _ _)
    | (with_reducible exact LeO.refl _)
    | (with_reducible exact LeO.none _)
    | (with_reducible refine LeO.ite ?_ ?_)
    | (with_reducible refine LeO.bind ?_ (fun _ => ?_))
    | exact ih0 _ _ _ _ _ _
    | exact ih1 _ _ _ _ _ _ _
    | exact ih2 _ _ _ _ _ _ _ _ _
    | exact ih3 _ _ _ _ _ _ _
    | exact LeO.none _
    | refine LeO.ite ?_ ?_
    | refine LeO.bind ?_ (fun _ => ?_)
theorem congruence_Do.mono : ∀ a0 a1 a2 a3 a4 k, LeO (congruence_Do.f k a0 a1 a2 a3 a4) (congruence_Do.f (k + 1) a0 a1 a2 a3 a4) := by
 intro a0 a1 a2 a3 a4 k
 obtain ⟨ih0, ih1, ih2, ih3⟩ := congruence_Do.mono_l k
 unfold congruence_Do.f
 repeat' first
  | (with_reducible exact ih0 _ _ _ _ _ _)
  | (with_reducible exact ih1 _ _ _ _ _ _ _)
  | (with_reducible exact ih2 _ _ _ _ _ _ _ _ _)
  | (with_reducible exact ih3 _ _ _ _ _ _ _)
  | (with_reducible exact LeO.refl _)
  | (with_reducible exact LeO.none _)
  | (with_reducible refine LeO.ite ?_ ?_)
  | (with_reducible refine LeO.bind ?_ (fun _ => ?_))
  | exact ih0 _ _ _ _ _ _
  | exact ih1 _ _ _ _ _ _ _
  | exact ih2 _ _ _ _ _ _ _ _ _
  | exact ih3 _ _ _ _ _ _ _
  | exact LeO.none _
  | refine LeO.ite ?_ ?_
  | refine LeO.bind ?_ (fun _ => ?_)
def congruence_Do.T2 : Bool × List (List Nat × List Nat) := (true, [([], []), ([], []), ([0, 1], [0, 1]), ([2, 1], [2]), ([3], [3]), ([3, 3], [3]), ([4, 5, 3], [3, 4, 5]), ([3, 6], [3, 6])])
def congruence_Do.B2 : List Nat := [0, 0, 3, 7, 15, 15, 63, 127]
theorem congruence_Do.tab2 : rtab .any (opsOf Tryd.f10 2) = congruence_Do.T2 := by kernel_rfl
theorem congruence_Do.bits2 : waitsOk congruence_Do.T2.2 congruence_Do.B2 = true := by kernel_rfl
def congruence_Do.T21 : Bool × List (List Nat × List Nat) := (true, [([], []), ([0], [0]), ([], []), ([1, 2], [1, 2]), ([], []), ([4], [4]), ([], []), ([5, 6], [5, 6]), ([3, 7, 5], [3, 7]), ([8, 8, 0, 1, 2, 3, 4, 5, 6, 7, 8], [8])])
def congruence_Do.B21 : List Nat := [0, 1, 0, 7, 0, 16, 0, 112, 255, 511]
theorem congruence_Do.tab21 : rtab .any (opsOf Tryd.f10 21) = congruence_Do.T21 := by kernel_rfl
theorem congruence_Do.bits21 : waitsOk congruence_Do.T21.2 congruence_Do.B21 = true := by kernel_rfl
def congruence_Do.T24 : Bool × List (List Nat × List Nat) := (true, [([], []), ([0], [0]), ([], []), ([2], [2]), ([1, 3], [1, 3]), ([], []), ([5], [5]), ([4, 6], [4, 6]), ([7], [7])])
def congruence_Do.B24 : List Nat := [0, 1, 0, 4, 15, 0, 32, 127, 255]
theorem congruence_Do.tab24 : rtab .any (opsOf Tryd.f10 24) = congruence_Do.T24 := by kernel_rfl
theorem congruence_Do.bits24 : waitsOk congruence_Do.T24.2 congruence_Do.B24 = true := by kernel_rfl
set_option maxHeartbeats 80000000 in
set_option maxRecDepth 100000 in
theorem congruence_Do.calls (k : Nat) (a0 : Int) (a1_0 : Int) (a1_1 : Int) (a2_0 : Int) (a2_1 : Int) (r1 : Int) (r2 : Int) (w : World) (h : congruence_Do.f k a0 a1_0 a1_1 a2_0 a2_1 = some (r1, r2)) (hT0 : Go.Proofs.YtaphfmbloappkaaDoor.TabOK w) :
 Calls Tryd.prog 10 #[.int .i64 a0, .agg #[.int .i64 a1_0, .int .i64 a1_1], .agg #[.int .i64 a2_0, .int .i64 a2_1]] w fun e w' => e = .returned (.agg #[.int .i64 r1, .int .i64 r2]) ∧ Below w.heap.size w w' := by
 have hT := aK hT0
 clear hT0
 have hu25 := Tryd.underlying25
 have HB := aK (Below.refl w.heap.size w)
 have H : ((congruence_Fix.f a1_0 a1_1).bind fun bt125 => ((congruence_Fix.f a2_0 a2_1).bind fun bt127 => ((congruence_None.f).bind fun bt129 => (if (bt125.1 == bt129.1 && (bt125.2 == bt129.2)) = true then (congruence_Do.j0 k a0 true bt125.1 bt125.2 bt127.1 bt127.2) else ((congruence_None.f).bind fun bt131 => (congruence_Do.j0 k a0 (bt127.1 == bt131.1 && (bt127.2 == bt131.2)) bt125.1 bt125.2 bt127.1 bt127.2)))))) = some (r1, r2) := h
 clear h
 replace H := Option.bind_eq_some_iff.mp H
 obtain ⟨⟨t125, t126⟩, A40, H⟩ := H
 replace H : ((congruence_Fix.f a2_0 a2_1).bind fun bt127 => ((congruence_None.f).bind fun bt129 => (if (t125 == bt129.1 && (t126 == bt129.2)) = true then (congruence_Do.j0 k a0 true t125 t126 bt127.1 bt127.2) else ((congruence_None.f).bind fun bt131 => (congruence_Do.j0 k a0 (bt127.1 == bt131.1 && (bt127.2 == bt131.2)) t125 t126 bt127.1 bt127.2))))) = some (r1, r2) := H
 have A4 := aK A40
 clear A40
 replace H := Option.bind_eq_some_iff.mp H
 obtain ⟨⟨t127, t128⟩, A50, H⟩ := H
 replace H : ((congruence_None.f).bind fun bt129 => (if (t125 == bt129.1 && (t126 == bt129.2)) = true then (congruence_Do.j0 k a0 true t125 t126 t127 t128) else ((congruence_None.f).bind fun bt131 => (congruence_Do.j0 k a0 (t127 == bt131.1 && (t128 == bt131.2)) t125 t126 t127 t128)))) = some (r1, r2) := H
 have A5 := aK A50
 clear A50
 have HC6 := aK H
 clear H
 go_enter Tryd.func10, Tryd.ntmps10
 try go_wp2_with (first | ((with_reducible refine gate_dst (N := 4) rfl ?_); refine box_event ?hg (N := 4) ?hd (cs := #[.int .i64 a1_0, .int .i64 a1_1]) (t := 25) ?hr ?_; (case hd => rfl); (case hg => rfl); (case hr => first | (go_simp; done) | (go_simp; rfl)); intro gb122 hg w7 hbox hb; have n0_ := aK (below_step (by repeat (first | (with_reducible first | exact HB.out | apply hA | apply hN | apply hD) | exact HB.out)) hb); have n1_ := aK (hbox); have n2_ := aK ((by rw [hg]; exact (below_size (by repeat (first | (with_reducible first | exact HB.out | apply hA | apply hN | apply hD) | exact HB.out))) : w.heap.size ≤ gb122)); have n3_ := aK ((by rw [hg]; exact (below_size (by repeat (first | (with_reducible first | exact HB.out | apply hA | apply hN | apply hD) | exact HB.out))) : w.heap.size ≤ gb122)); clear HB; have HB := n0_; have BK122 := n1_; have GW122 := n2_; have GE122 := n3_; clear n0_ n1_ n2_ n3_; clear hb hbox hg) | ((with_reducible refine gate_dst (N := 5) rfl ?_); refine box_event ?hg (N := 5) ?hd (cs := #[.int .i64 a2_0, .int .i64 a2_1]) (t := 25) ?hr ?_; (case hd => rfl); (case hg => rfl); (case hr => first | (go_simp; done) | (go_simp; rfl)); intro gb123 hg w8 hbox hb; have n0_ := aK (blk_below (g := gb122) (o := .cells #[.int .i64 a1_0, .int .i64 a1_1] 25 (0, 0)) (by (with_reducible repeat (first | refine bR ?_ | refine bA ?_ _)); exact BK122.out) hb); have n1_ := aK (below_step (by repeat (first | (with_reducible first | exact HB.out | apply hA | apply hN | apply hD | refine below_set ?_ GE122.out) | exact HB.out)) hb); have n2_ := aK (hbox); have n3_ := aK ((by rw [hg]; exact (below_size (by repeat (first | (with_reducible first | exact HB.out | apply hA | apply hN | apply hD | refine below_set ?_ GE122.out) | exact HB.out))) : w.heap.size ≤ gb123)); have n4_ := aK ((by rw [hg]; exact (below_size (by repeat (first | (with_reducible first | exact HB.out | apply hA | apply hN | apply hD | refine below_set ?_ GE122.out) | exact HB.out))) : w.heap.size ≤ gb123)); have n5_ := aK ((by rw [hg]; exact Nat.ne_of_lt (blk_lt (g := gb122) (o := .cells #[.int .i64 a1_0, .int .i64 a1_1] 25 (0, 0)) (by (with_reducible repeat (first | refine bR ?_ | refine bA ?_ _)); exact BK122.out)) : gb122 ≠ gb123)); have n6_ := aK ((by rw [hg]; exact Nat.ne_of_gt (blk_lt (g := gb122) (o := .cells #[.int .i64 a1_0, .int .i64 a1_1] 25 (0, 0)) (by (with_reducible repeat (first | refine bR ?_ | refine bA ?_ _)); exact BK122.out)) : gb123 ≠ gb122)); clear BK122; clear HB; have BK122 := n0_; have HB := n1_; have BK123 := n2_; have GW123 := n3_; have GE123 := n4_; have NB122_123 := n5_; have NB123_122 := n6_; clear n0_ n1_ n2_ n3_ n4_ n5_ n6_; clear hb hbox hg) | ((with_reducible refine gate_dst (N := 6) rfl ?_); refine box_event ?hg (N := 6) ?hd (cs := #[.int .i64 0, .int .i64 0]) (t := 25) ?hr ?_; (case hd => rfl); (case hg => rfl); (case hr => first | (go_simp; done) | (go_simp; rfl)); intro gb124 hg w9 hbox hb; have n0_ := aK (blk_below (g := gb122) (o := .cells #[.int .i64 a1_0, .int .i64 a1_1] 25 (0, 0)) (by (with_reducible repeat (first | refine bR ?_ | refine bA ?_ _)); exact BK122.out) hb); have n1_ := aK (blk_below (g := gb123) (o := .cells #[.int .i64 a2_0, .int .i64 a2_1] 25 (0, 0)) (by (with_reducible repeat (first | refine bR ?_ | refine bA ?_ _)); exact BK123.out) hb); have n2_ := aK (below_step (by repeat (first | (with_reducible first | exact HB.out | apply hA | apply hN | apply hD | refine below_set ?_ GE122.out | refine below_set ?_ GE123.out) | exact HB.out)) hb); have n3_ := aK (hbox); have n4_ := aK ((by rw [hg]; exact (below_size (by repeat (first | (with_reducible first | exact HB.out | apply hA | apply hN | apply hD | refine below_set ?_ GE122.out | refine below_set ?_ GE123.out) | exact HB.out))) : w.heap.size ≤ gb124)); have n5_ := aK ((by rw [hg]; exact (below_size (by repeat (first | (with_reducible first | exact HB.out | apply hA | apply hN | apply hD | refine below_set ?_ GE122.out | refine below_set ?_ GE123.out) | exact HB.out))) : w.heap.size ≤ gb124)); have n6_ := aK ((by rw [hg]; exact Nat.ne_of_lt (blk_lt (g := gb122) (o := .cells #[.int .i64 a1_0, .int .i64 a1_1] 25 (0, 0)) (by (with_reducible repeat (first | refine bR ?_ | refine bA ?_ _)); exact BK122.out)) : gb122 ≠ gb124)); have n7_ := aK ((by rw [hg]; exact Nat.ne_of_gt (blk_lt (g := gb122) (o := .cells #[.int .i64 a1_0, .int .i64 a1_1] 25 (0, 0)) (by (with_reducible repeat (first | refine bR ?_ | refine bA ?_ _)); exact BK122.out)) : gb124 ≠ gb122)); have n8_ := aK ((by rw [hg]; exact Nat.ne_of_lt (blk_lt (g := gb123) (o := .cells #[.int .i64 a2_0, .int .i64 a2_1] 25 (0, 0)) (by (with_reducible repeat (first | refine bR ?_ | refine bA ?_ _)); exact BK123.out)) : gb123 ≠ gb124)); have n9_ := aK ((by rw [hg]; exact Nat.ne_of_gt (blk_lt (g := gb123) (o := .cells #[.int .i64 a2_0, .int .i64 a2_1] 25 (0, 0)) (by (with_reducible repeat (first | refine bR ?_ | refine bA ?_ _)); exact BK123.out)) : gb124 ≠ gb123)); clear BK122; clear BK123; clear HB; have BK122 := n0_; have BK123 := n1_; have HB := n2_; have BK124 := n3_; have GW124 := n4_; have GE124 := n5_; have NB122_124 := n6_; have NB124_122 := n7_; have NB123_124 := n8_; have NB124_123 := n9_; clear n0_ n1_ n2_ n3_ n4_ n5_ n6_ n7_ n8_ n9_; clear hb hbox hg))
 have n0_ := aK (blk_drew BK122.out)
 have n1_ := aK (blk_drew BK123.out)
 have n2_ := aK (blk_drew BK124.out)
 have n3_ := aK (below_drew1 HB.out)
 clear BK122
 clear BK123
 clear BK124
 clear HB
 have BK122 := n0_
 have BK123 := n1_
 have BK124 := n2_
 have HB := n3_
 clear n0_ n1_ n2_ n3_
 refine start_ (n := 6) (S := fun w' => w'.cell? ⟨gb122, 0, none⟩ = some (.int .i64 a1_0) ∧ w'.cell? ⟨gb122, 1, none⟩ = some (.int .i64 a1_1) ∧ w'.cell? ⟨gb123, 0, none⟩ = some (.int .i64 a2_0) ∧ w'.cell? ⟨gb123, 1, none⟩ = some (.int .i64 a2_1)) (ds := [4, 5]) #[Z,Z,Z,Z,Z,Z] (by kernel_rfl) rfl rfl ⟨(blk_cell BK122.out 0).trans rfl, (blk_cell BK122.out 1).trans rfl, (blk_cell BK123.out 0).trans rfl, (blk_cell BK123.out 1).trans rfl⟩ (fun hHeld => ?_)
 generalize w9.drew = w10 at BK122 BK123 BK124 HB hHeld ⊢
 refine take_ (i := 0) (N := some 11) (v := ?_) (a' := ?_) #[Y,Z,Z,Z,Z,Z] rfl rfl (by kernel_rfl) (fun _ _ _ h => h) (Or.inl ⟨by rfl, ?_⟩) hHeld ?_ ?_
 rotate_left
 · rintro w' ⟨s0, s1, s2, s3⟩
   go_simp
   with_reducible rfl
 rotate_left
 · simp only [Act.put, sA, sB, sC, i64_w, i32_w]
   rfl
 refine take_ (i := 2) (N := some 13) (v := ?_) (a' := ?_) #[Y,Z,Y,Z,Z,Z] rfl rfl (by kernel_rfl) (fun _ _ _ h => h) (Or.inl ⟨by rfl, ?_⟩) hHeld ?_ ?_
 rotate_left
 · rintro w' ⟨s0, s1, s2, s3⟩
   go_simp
   with_reducible rfl
 rotate_left
 · simp only [Act.put, sA, sB, sC, i64_w, i32_w]
   rfl
 refine one_ (i := 1) (N := some 12) #[Y,Y,Y,Z,Z,Z] rfl rfl (by kernel_rfl) (by decide) (fun K hK => ?_)
 refine goes_ Tryd.func24 (by kernel_rfl) rfl #[.agg #[.int .i64 a1_0, .int .i64 a1_1]] (by rfl) rfl rfl (by (try simp only [mA, mB, mC]); first | done | rfl) ?_
 with_reducible refine (congruence_Fix.calls a1_0 a1_1 t125 t126 _ A4.out).mono ?_
 rintro e w11 ⟨rfl, hb⟩
 refine ⟨_, rfl, ?_⟩
 have n0_ := aK (blk_below (g := gb122) (o := .cells #[.int .i64 a1_0, .int .i64 a1_1] 25 (0, 0)) (by (with_reducible repeat (first | refine bR ?_ | refine bA ?_ _)); exact BK122.out) hb)
 have n1_ := aK (blk_below (g := gb123) (o := .cells #[.int .i64 a2_0, .int .i64 a2_1] 25 (0, 0)) (by (with_reducible repeat (first | refine bR ?_ | refine bA ?_ _)); exact BK123.out) hb)
 have n2_ := aK (blk_below (g := gb124) (o := .cells #[.int .i64 0, .int .i64 0] 25 (0, 0)) (by (with_reducible repeat (first | refine bR ?_ | refine bA ?_ _)); exact BK124.out) hb)
 have n3_ := aK (below_step (by repeat (first | (with_reducible first | exact HB.out | apply hA | apply hN | apply hD | refine below_set ?_ GE122.out | refine below_set ?_ GE123.out | refine below_set ?_ GE124.out) | exact HB.out)) hb)
 clear BK122
 clear BK123
 clear BK124
 clear HB
 have BK122 := n0_
 have BK123 := n1_
 have BK124 := n2_
 have HB := n3_
 clear n0_ n1_ n2_ n3_
 (try clear hb)
 (try clear hb2)
 (try clear hk)
 (try clear hi)
 refine hK.out _ _ ⟨(blk_cell BK122.out 0).trans rfl, (blk_cell BK122.out 1).trans rfl, (blk_cell BK123.out 0).trans rfl, (blk_cell BK123.out 1).trans rfl⟩ (fun hHeld => ?_)
 clear hK K
 refine norm_ (a' := ?_) ?_ ?_
 rotate_left
 · show Act.put _ (some 12) _ = _
   simp only [Act.put, sA, sB, sC, i64_w, i32_w]
   rfl
 refine one_ (i := 3) (N := some 14) #[Y,Y,Y,Y,Z,Z] rfl rfl (by kernel_rfl) (by decide) (fun K hK => ?_)
 refine goes_ Tryd.func24 (by kernel_rfl) rfl #[.agg #[.int .i64 a2_0, .int .i64 a2_1]] (by rfl) rfl rfl (by (try simp only [mA, mB, mC]); first | done | rfl) ?_
 with_reducible refine (congruence_Fix.calls a2_0 a2_1 t127 t128 _ A5.out).mono ?_
 rintro e w12 ⟨rfl, hb⟩
 refine ⟨_, rfl, ?_⟩
 have n0_ := aK (blk_below (g := gb122) (o := .cells #[.int .i64 a1_0, .int .i64 a1_1] 25 (0, 0)) (by (with_reducible repeat (first | refine bR ?_ | refine bA ?_ _)); exact BK122.out) hb)
 have n1_ := aK (blk_below (g := gb123) (o := .cells #[.int .i64 a2_0, .int .i64 a2_1] 25 (0, 0)) (by (with_reducible repeat (first | refine bR ?_ | refine bA ?_ _)); exact BK123.out) hb)
 have n2_ := aK (blk_below (g := gb124) (o := .cells #[.int .i64 0, .int .i64 0] 25 (0, 0)) (by (with_reducible repeat (first | refine bR ?_ | refine bA ?_ _)); exact BK124.out) hb)
 have n3_ := aK (below_step (by repeat (first | (with_reducible first | exact HB.out | apply hA | apply hN | apply hD | refine below_set ?_ GE122.out | refine below_set ?_ GE123.out | refine below_set ?_ GE124.out) | exact HB.out)) hb)
 clear BK122
 clear BK123
 clear BK124
 clear HB
 have BK122 := n0_
 have BK123 := n1_
 have BK124 := n2_
 have HB := n3_
 clear n0_ n1_ n2_ n3_
 (try clear hb)
 (try clear hb2)
 (try clear hk)
 (try clear hi)
 refine hK.out _ _ ⟨(blk_cell BK122.out 0).trans rfl, (blk_cell BK122.out 1).trans rfl, (blk_cell BK123.out 0).trans rfl, (blk_cell BK123.out 1).trans rfl⟩ (fun hHeld => ?_)
 clear hK K
 refine norm_ (a' := ?_) ?_ ?_
 rotate_left
 · show Act.put _ (some 14) _ = _
   simp only [Act.put, sA, sB, sC, i64_w, i32_w]
   rfl
 refine last_ (i := 4) (N := none) #[Y,Y,Y,Y,Y,Z] rfl rfl (by kernel_rfl) (by decide) (fun K hK => ?_)
 have hs13 : w12.cell? ⟨gb122, 0, none⟩ = some (.int .i64 a1_0) := (blk_cell BK122.out 0).trans rfl
 have hfs13 := blk_frozen BK122.out 0
 have hns13_1 := NB123_122.out
 have hns13_2 := NB124_122.out
 have hms13_1 := NB122_123.out
 have hms13_2 := NB122_124.out
 have hs14 : w12.cell? ⟨gb122, 1, none⟩ = some (.int .i64 a1_1) := (blk_cell BK122.out 1).trans rfl
 have hfs14 := blk_frozen BK122.out 1
 have hns14_1 := NB123_122.out
 have hns14_2 := NB124_122.out
 have hms14_1 := NB122_123.out
 have hms14_2 := NB122_124.out
 refine skip_ (w1 := ?_) (by rfl) rfl ?_ ?_
 rotate_left
 · go_simp
   rfl
 refine hK.out _ _ ?_
 clear hK K
 refine last_ (i := 5) (N := none) #[Y,Y,Y,Y,Y,Y] rfl rfl (by kernel_rfl) (by decide) (fun K hK => ?_)
 have hs15 : w12.cell? ⟨gb123, 0, none⟩ = some (.int .i64 a2_0) := (blk_cell BK123.out 0).trans rfl
 have hfs15 := blk_frozen BK123.out 0
 have hns15_0 := NB122_123.out
 have hns15_2 := NB124_123.out
 have hms15_0 := NB123_122.out
 have hms15_2 := NB123_124.out
 have hs16 : w12.cell? ⟨gb123, 1, none⟩ = some (.int .i64 a2_1) := (blk_cell BK123.out 1).trans rfl
 have hfs16 := blk_frozen BK123.out 1
 have hns16_0 := NB122_123.out
 have hns16_2 := NB124_123.out
 have hms16_0 := NB123_122.out
 have hms16_2 := NB123_124.out
 refine skip_ (w1 := ?_) (by rfl) rfl ?_ ?_
 rotate_left
 · go_simp
   rfl
 refine hK.out _ _ ?_
 clear hK K
 refine done_ (by kernel_rfl) ?_
 go_upto_region 2 with (fail)
 go_cut [22] (fun v22 wc => ∃ (kq : Nat) (x22_5 : Bool), v22 = .bool x22_5 ∧ Aside0 (congruence_Do.j0 kq a0 x22_5 t125 t126 t127 t128 = some (r1, r2)) ∧ Aside0 (kq ≤ k) ∧ Aside0 (wc.heap[gb122]? = some (.cells #[.int .i64 t125, .int .i64 t126] 25 (0, 0))) ∧ Aside0 (wc.heap[gb123]? = some (.cells #[.int .i64 t127, .int .i64 t128] 25 (0, 0))) ∧ Aside0 (wc.heap[gb124]? = some (.cells #[.int .i64 0, .int .i64 0] 25 (0, 0))) ∧ Aside0 (Below w.heap.size w wc))
 case first =>
  have H := HC6.out
  clear HC6
  replace H := Option.bind_eq_some_iff.mp H
  obtain ⟨⟨t129, t130⟩, A170, H⟩ := H
  replace H : (if (t125 == t129 && (t126 == t130)) = true then (congruence_Do.j0 k a0 true t125 t126 t127 t128) else ((congruence_None.f).bind fun bt131 => (congruence_Do.j0 k a0 (t127 == bt131.1 && (t128 == bt131.2)) t125 t126 t127 t128))) = some (r1, r2) := H
  have A17 := aK A170
  clear A170
  by_cases c18 : (t125 == t129 && (t126 == t130)) = true
  · rw [if_pos c18] at H
    have c18b0 : (t125 == t129 && (t126 == t130)) = true := c18
    (try (have c18b1 : decide (t125 = t129 && (t126 == t130)) = true := by simpa using c18))
    (try (have c18b2 : (t125 == t129 && (t126 == t130)) = true := by simpa using c18))
    clear c18
    (first | rw [c18b0] | (simp only [i64_w, i32_w]; rw [c18b0]) | skip)
    have H' := aK H
    clear H
    try go_wp2
    have n0_ : Aside0 (((((w12.setCell ⟨gb122, 0, none⟩ (.int .i64 t125)).setCell ⟨gb122, 1, none⟩ (.int .i64 t126)).setCell ⟨gb123, 0, none⟩ (.int .i64 t127)).setCell ⟨gb123, 1, none⟩ (.int .i64 t128)).heap[gb122]? = some (.cells #[.int .i64 t125, .int .i64 t126] 25 (0, 0))) := ⟨by (with_reducible repeat (first | refine bR ?_ | refine bA ?_ _)); refine blk_far ?_ NB122_123.out _; (with_reducible repeat (first | refine bR ?_ | refine bA ?_ _)); refine blk_far ?_ NB122_123.out _; (with_reducible repeat (first | refine bR ?_ | refine bA ?_ _)); refine blk_put (cs := #[.int .i64 t125, .int .i64 a1_1]) ?_ 1 _ rfl; (with_reducible repeat (first | refine bR ?_ | refine bA ?_ _)); refine blk_put (cs := #[.int .i64 a1_0, .int .i64 a1_1]) ?_ 0 _ rfl; (with_reducible repeat (first | refine bR ?_ | refine bA ?_ _)); exact BK122.out⟩
    have n1_ : Aside0 (((((w12.setCell ⟨gb122, 0, none⟩ (.int .i64 t125)).setCell ⟨gb122, 1, none⟩ (.int .i64 t126)).setCell ⟨gb123, 0, none⟩ (.int .i64 t127)).setCell ⟨gb123, 1, none⟩ (.int .i64 t128)).heap[gb123]? = some (.cells #[.int .i64 t127, .int .i64 t128] 25 (0, 0))) := ⟨by (with_reducible repeat (first | refine bR ?_ | refine bA ?_ _)); refine blk_put (cs := #[.int .i64 t127, .int .i64 a2_1]) ?_ 1 _ rfl; (with_reducible repeat (first | refine bR ?_ | refine bA ?_ _)); refine blk_put (cs := #[.int .i64 a2_0, .int .i64 a2_1]) ?_ 0 _ rfl; (with_reducible repeat (first | refine bR ?_ | refine bA ?_ _)); refine blk_far ?_ NB123_122.out _; (with_reducible repeat (first | refine bR ?_ | refine bA ?_ _)); refine blk_far ?_ NB123_122.out _; (with_reducible repeat (first | refine bR ?_ | refine bA ?_ _)); exact BK123.out⟩
    have n2_ : Aside0 (((((w12.setCell ⟨gb122, 0, none⟩ (.int .i64 t125)).setCell ⟨gb122, 1, none⟩ (.int .i64 t126)).setCell ⟨gb123, 0, none⟩ (.int .i64 t127)).setCell ⟨gb123, 1, none⟩ (.int .i64 t128)).heap[gb124]? = some (.cells #[.int .i64 0, .int .i64 0] 25 (0, 0))) := ⟨by (with_reducible repeat (first | refine bR ?_ | refine bA ?_ _)); refine blk_far ?_ NB124_123.out _; (with_reducible repeat (first | refine bR ?_ | refine bA ?_ _)); refine blk_far ?_ NB124_123.out _; (with_reducible repeat (first | refine bR ?_ | refine bA ?_ _)); refine blk_far ?_ NB124_122.out _; (with_reducible repeat (first | refine bR ?_ | refine bA ?_ _)); refine blk_far ?_ NB124_122.out _; (with_reducible repeat (first | refine bR ?_ | refine bA ?_ _)); exact BK124.out⟩
    have n3_ : Aside0 (Below w.heap.size w ((((w12.setCell ⟨gb122, 0, none⟩ (.int .i64 t125)).setCell ⟨gb122, 1, none⟩ (.int .i64 t126)).setCell ⟨gb123, 0, none⟩ (.int .i64 t127)).setCell ⟨gb123, 1, none⟩ (.int .i64 t128))) := ⟨by repeat (first | (with_reducible first | exact HB.out | apply hA | apply hN | apply hD | refine below_set ?_ GE122.out | refine below_set ?_ GE123.out | refine below_set ?_ GE124.out) | exact HB.out)⟩
    (try clear BK122)
    (try clear BK123)
    (try clear BK124)
    (try clear HB)
    generalize ((((w12.setCell ⟨gb122, 0, none⟩ (.int .i64 t125)).setCell ⟨gb122, 1, none⟩ (.int .i64 t126)).setCell ⟨gb123, 0, none⟩ (.int .i64 t127)).setCell ⟨gb123, 1, none⟩ (.int .i64 t128)) = w19 at n0_ n1_ n2_ n3_ ⊢
    have BK122 := n0_
    have BK123 := n1_
    have BK124 := n2_
    have HB := n3_
    clear n0_ n1_ n2_ n3_
    have n0_ := aK (blk_drew BK122.out)
    have n1_ := aK (blk_drew BK123.out)
    have n2_ := aK (blk_drew BK124.out)
    have n3_ := aK (below_drew1 HB.out)
    clear BK122
    clear BK123
    clear BK124
    clear HB
    have BK122 := n0_
    have BK123 := n1_
    have BK124 := n2_
    have HB := n3_
    clear n0_ n1_ n2_ n3_
    refine start_ (n := 8) (S := fun w' => w'.cell? ⟨gb122, 0, none⟩ = some (.int .i64 t125) ∧ w'.cell? ⟨gb122, 1, none⟩ = some (.int .i64 t126)) (ds := []) #[Z,Z,Z,Z,Z,Z,Z,Z] (by kernel_rfl) rfl rfl ⟨(blk_cell BK122.out 0).trans rfl, (blk_cell BK122.out 1).trans rfl⟩ (fun hHeld => ?_); refine with_tabW congruence_Do.tab2 congruence_Do.bits2 (fun HT_ HW_ => ?_)
    generalize w19.drew = w20 at BK122 BK123 BK124 HB hHeld ⊢
    refine take_ (i := 0) (N := some 15) (v := ?_) (a' := ?_) #[Y,Z,Z,Z,Z,Z,Z,Z] rfl rfl (take_ofW HT_.out HW_.out (by kernel_rfl)) (fun _ _ _ h => h) (Or.inl ⟨by rfl, ?_⟩) hHeld ?_ ?_
    rotate_left
    · rintro w' ⟨s0, s1⟩
      go_simp
      with_reducible rfl
    rotate_left
    · simp only [Act.put, sA, sB, sC, i64_w, i32_w]
      rfl
    refine one_ (i := 1) (N := some 16) #[Y,Y,Z,Z,Z,Z,Z,Z] rfl rfl (one_of HT_.out (by kernel_rfl)) (by decide) (fun K hK => ?_)
    refine goes_ Tryd.func9 (by kernel_rfl) rfl #[] (by rfl) rfl rfl (by (try simp only [mA, mB, mC]); first | done | rfl) ?_
    with_reducible refine (congruence_None.calls  t129 t130 _ A17.out).mono ?_
    rintro e w21 ⟨rfl, hb⟩
    refine ⟨_, rfl, ?_⟩
    have n0_ := aK (blk_below (g := gb122) (o := .cells #[.int .i64 t125, .int .i64 t126] 25 (0, 0)) (by (with_reducible repeat (first | refine bR ?_ | refine bA ?_ _)); exact BK122.out) hb)
    have n1_ := aK (blk_below (g := gb123) (o := .cells #[.int .i64 t127, .int .i64 t128] 25 (0, 0)) (by (with_reducible repeat (first | refine bR ?_ | refine bA ?_ _)); exact BK123.out) hb)
    have n2_ := aK (blk_below (g := gb124) (o := .cells #[.int .i64 0, .int .i64 0] 25 (0, 0)) (by (with_reducible repeat (first | refine bR ?_ | refine bA ?_ _)); exact BK124.out) hb)
    have n3_ := aK (below_step (by repeat (first | (with_reducible first | exact HB.out | apply hA | apply hN | apply hD | refine below_set ?_ GE122.out | refine below_set ?_ GE123.out | refine below_set ?_ GE124.out) | exact HB.out)) hb)
    clear BK122
    clear BK123
    clear BK124
    clear HB
    have BK122 := n0_
    have BK123 := n1_
    have BK124 := n2_
    have HB := n3_
    clear n0_ n1_ n2_ n3_
    (try clear hb)
    (try clear hb2)
    (try clear hk)
    (try clear hi)
    refine hK.out _ _ ⟨(blk_cell BK122.out 0).trans rfl, (blk_cell BK122.out 1).trans rfl⟩ (fun hHeld => ?_)
    clear hK K
    refine norm_ (a' := ?_) ?_ ?_
    rotate_left
    · show Act.put _ (some 16) _ = _
      simp only [Act.put, sA, sB, sC, i64_w, i32_w]
      rfl
    refine pure_ (i := 2) (N := some 17) (v := ?_) (a' := ?_) #[Y,Y,Y,Z,Z,Z,Z,Z] rfl rfl (any_of HT_.out (by kernel_rfl)) (fun _ _ _ h => h) (Or.inl ⟨by rfl, ?_⟩) ?_ ?_
    rotate_left
    · intro w'
      go_simp
      with_reducible rfl
    rotate_left
    · simp only [Act.put, sA, sB, sC, i64_w, i32_w]
      rfl
    refine pure_ (i := 3) (N := some 18) (v := ?_) (a' := ?_) #[Y,Y,Y,Y,Z,Z,Z,Z] rfl rfl (any_of HT_.out (by kernel_rfl)) (fun _ _ _ h => h) (Or.inl ⟨by rfl, ?_⟩) ?_ ?_
    rotate_left
    · intro w'
      go_simp
      with_reducible rfl
    rotate_left
    · simp only [Act.put, sA, sB, sC, i64_w, i32_w]
      rfl
    refine pure_ (i := 4) (N := some 19) (v := undef) (a' := ?_) #[Y,Y,Y,Y,Y,Z,Z,Z] rfl rfl (any_of HT_.out (by kernel_rfl)) (fun _ _ _ h => h) (Or.inr ⟨by rfl, rfl⟩) ?_ ?_
    rotate_left
    · simp only [Act.put, sA, sB, sC, i64_w, i32_w]
      rfl
    refine pure_ (i := 5) (N := some 20) (v := undef) (a' := ?_) #[Y,Y,Y,Y,Y,Y,Z,Z] rfl rfl (any_of HT_.out (by kernel_rfl)) (fun _ _ _ h => h) (Or.inr ⟨by rfl, rfl⟩) ?_ ?_
    rotate_left
    · simp only [Act.put, sA, sB, sC, i64_w, i32_w]
      rfl
    refine pure_ (i := 6) (N := some 21) (v := undef) (a' := ?_) #[Y,Y,Y,Y,Y,Y,Y,Z] rfl rfl (any_of HT_.out (by kernel_rfl)) (fun _ _ _ h => h) (Or.inr ⟨by rfl, rfl⟩) ?_ ?_
    rotate_left
    · simp only [Act.put, sA, sB, sC, i64_w, i32_w]
      rfl
    refine pure_ (i := 7) (N := some 22) (v := ?_) (a' := ?_) #[Y,Y,Y,Y,Y,Y,Y,Y] rfl rfl (any_of HT_.out (by kernel_rfl)) (fun _ _ _ h => h) (Or.inl ⟨by rfl, ?_⟩) ?_ ?_
    rotate_left
    · intro w'
      go_simp
      with_reducible rfl
    rotate_left
    · simp only [Act.put, sA, sB, sC, i64_w, i32_w]
      rfl
    refine done_ (done_of HT_.out (by kernel_rfl)) ?_
    try go_wp2
    go_meet
    case rel => exact ⟨_, (true), (by first | rfl | (simp; done) | (simp [*]; done)), H', ⟨by first | omega | exact Nat.le_refl _⟩, ⟨by (with_reducible repeat (first | refine bR ?_ | refine bA ?_ _)); exact BK122.out⟩, ⟨by (with_reducible repeat (first | refine bR ?_ | refine bA ?_ _)); exact BK123.out⟩, ⟨by (with_reducible repeat (first | refine bR ?_ | refine bA ?_ _)); exact BK124.out⟩, ⟨by repeat (first | (with_reducible first | exact HB.out | apply hA | apply hN | apply hD | refine below_set ?_ GE122.out | refine below_set ?_ GE123.out | refine below_set ?_ GE124.out) | exact HB.out)⟩⟩
  · rw [if_neg c18] at H
    have c18b0 : (t125 == t129 && (t126 == t130)) = false := by simpa using c18
    (try (have c18b1 : decide (t125 = t129 && (t126 == t130)) = false := by simpa using c18))
    (try (have c18b2 : (t125 == t129 && (t126 == t130)) = false := by simpa using c18))
    (try (have c18b3 : ¬ (t125 = t129 && (t126 == t130)) := by simpa using c18))
    clear c18
    (first | rw [c18b0] | (simp only [i64_w, i32_w]; rw [c18b0]) | skip)
    replace H := Option.bind_eq_some_iff.mp H
    obtain ⟨⟨t131, t132⟩, A220, H⟩ := H
    replace H : (congruence_Do.j0 k a0 (t127 == t131 && (t128 == t132)) t125 t126 t127 t128) = some (r1, r2) := H
    have A22 := aK A220
    clear A220
    have H' := aK H
    clear H
    try go_wp2
    have n0_ : Aside0 (((((w12.setCell ⟨gb122, 0, none⟩ (.int .i64 t125)).setCell ⟨gb122, 1, none⟩ (.int .i64 t126)).setCell ⟨gb123, 0, none⟩ (.int .i64 t127)).setCell ⟨gb123, 1, none⟩ (.int .i64 t128)).heap[gb122]? = some (.cells #[.int .i64 t125, .int .i64 t126] 25 (0, 0))) := ⟨by (with_reducible repeat (first | refine bR ?_ | refine bA ?_ _)); refine blk_far ?_ NB122_123.out _; (with_reducible repeat (first | refine bR ?_ | refine bA ?_ _)); refine blk_far ?_ NB122_123.out _; (with_reducible repeat (first | refine bR ?_ | refine bA ?_ _)); refine blk_put (cs := #[.int .i64 t125, .int .i64 a1_1]) ?_ 1 _ rfl; (with_reducible repeat (first | refine bR ?_ | refine bA ?_ _)); refine blk_put (cs := #[.int .i64 a1_0, .int .i64 a1_1]) ?_ 0 _ rfl; (with_reducible repeat (first | refine bR ?_ | refine bA ?_ _)); exact BK122.out⟩
    have n1_ : Aside0 (((((w12.setCell ⟨gb122, 0, none⟩ (.int .i64 t125)).setCell ⟨gb122, 1, none⟩ (.int .i64 t126)).setCell ⟨gb123, 0, none⟩ (.int .i64 t127)).setCell ⟨gb123, 1, none⟩ (.int .i64 t128)).heap[gb123]? = some (.cells #[.int .i64 t127, .int .i64 t128] 25 (0, 0))) := ⟨by (with_reducible repeat (first | refine bR ?_ | refine bA ?_ _)); refine blk_put (cs := #[.int .i64 t127, .int .i64 a2_1]) ?_ 1 _ rfl; (with_reducible repeat (first | refine bR ?_ | refine bA ?_ _)); refine blk_put (cs := #[.int .i64 a2_0, .int .i64 a2_1]) ?_ 0 _ rfl; (with_reducible repeat (first | refine bR ?_ | refine bA ?_ _)); refine blk_far ?_ NB123_122.out _; (with_reducible repeat (first | refine bR ?_ | refine bA ?_ _)); refine blk_far ?_ NB123_122.out _; (with_reducible repeat (first | refine bR ?_ | refine bA ?_ _)); exact BK123.out⟩
    have n2_ : Aside0 (((((w12.setCell ⟨gb122, 0, none⟩ (.int .i64 t125)).setCell ⟨gb122, 1, none⟩ (.int .i64 t126)).setCell ⟨gb123, 0, none⟩ (.int .i64 t127)).setCell ⟨gb123, 1, none⟩ (.int .i64 t128)).heap[gb124]? = some (.cells #[.int .i64 0, .int .i64 0] 25 (0, 0))) := ⟨by (with_reducible repeat (first | refine bR ?_ | refine bA ?_ _)); refine blk_far ?_ NB124_123.out _; (with_reducible repeat (first | refine bR ?_ | refine bA ?_ _)); refine blk_far ?_ NB124_123.out _; (with_reducible repeat (first | refine bR ?_ | refine bA ?_ _)); refine blk_far ?_ NB124_122.out _; (with_reducible repeat (first | refine bR ?_ | refine bA ?_ _)); refine blk_far ?_ NB124_122.out _; (with_reducible repeat (first | refine bR ?_ | refine bA ?_ _)); exact BK124.out⟩
    have n3_ : Aside0 (Below w.heap.size w ((((w12.setCell ⟨gb122, 0, none⟩ (.int .i64 t125)).setCell ⟨gb122, 1, none⟩ (.int .i64 t126)).setCell ⟨gb123, 0, none⟩ (.int .i64 t127)).setCell ⟨gb123, 1, none⟩ (.int .i64 t128))) := ⟨by repeat (first | (with_reducible first | exact HB.out | apply hA | apply hN | apply hD | refine below_set ?_ GE122.out | refine below_set ?_ GE123.out | refine below_set ?_ GE124.out) | exact HB.out)⟩
    (try clear BK122)
    (try clear BK123)
    (try clear BK124)
    (try clear HB)
    generalize ((((w12.setCell ⟨gb122, 0, none⟩ (.int .i64 t125)).setCell ⟨gb122, 1, none⟩ (.int .i64 t126)).setCell ⟨gb123, 0, none⟩ (.int .i64 t127)).setCell ⟨gb123, 1, none⟩ (.int .i64 t128)) = w23 at n0_ n1_ n2_ n3_ ⊢
    have BK122 := n0_
    have BK123 := n1_
    have BK124 := n2_
    have HB := n3_
    clear n0_ n1_ n2_ n3_
    have n0_ := aK (blk_drew BK122.out)
    have n1_ := aK (blk_drew BK123.out)
    have n2_ := aK (blk_drew BK124.out)
    have n3_ := aK (below_drew1 HB.out)
    clear BK122
    clear BK123
    clear BK124
    clear HB
    have BK122 := n0_
    have BK123 := n1_
    have BK124 := n2_
    have HB := n3_
    clear n0_ n1_ n2_ n3_
    refine start_ (n := 8) (S := fun w' => w'.cell? ⟨gb122, 0, none⟩ = some (.int .i64 t125) ∧ w'.cell? ⟨gb122, 1, none⟩ = some (.int .i64 t126) ∧ w'.cell? ⟨gb123, 0, none⟩ = some (.int .i64 t127) ∧ w'.cell? ⟨gb123, 1, none⟩ = some (.int .i64 t128)) (ds := []) #[Z,Z,Z,Z,Z,Z,Z,Z] (by kernel_rfl) rfl rfl ⟨(blk_cell BK122.out 0).trans rfl, (blk_cell BK122.out 1).trans rfl, (blk_cell BK123.out 0).trans rfl, (blk_cell BK123.out 1).trans rfl⟩ (fun hHeld => ?_); refine with_tabW congruence_Do.tab2 congruence_Do.bits2 (fun HT_ HW_ => ?_)
    generalize w23.drew = w24 at BK122 BK123 BK124 HB hHeld ⊢
    refine take_ (i := 0) (N := some 15) (v := ?_) (a' := ?_) #[Y,Z,Z,Z,Z,Z,Z,Z] rfl rfl (take_ofW HT_.out HW_.out (by kernel_rfl)) (fun _ _ _ h => h) (Or.inl ⟨by rfl, ?_⟩) hHeld ?_ ?_
    rotate_left
    · rintro w' ⟨s0, s1, s2, s3⟩
      go_simp
      with_reducible rfl
    rotate_left
    · simp only [Act.put, sA, sB, sC, i64_w, i32_w]
      rfl
    refine one_ (i := 1) (N := some 16) #[Y,Y,Z,Z,Z,Z,Z,Z] rfl rfl (one_of HT_.out (by kernel_rfl)) (by decide) (fun K hK => ?_)
    refine goes_ Tryd.func9 (by kernel_rfl) rfl #[] (by rfl) rfl rfl (by (try simp only [mA, mB, mC]); first | done | rfl) ?_
    with_reducible refine (congruence_None.calls  t129 t130 _ A17.out).mono ?_
    rintro e w25 ⟨rfl, hb⟩
    refine ⟨_, rfl, ?_⟩
    have n0_ := aK (blk_below (g := gb122) (o := .cells #[.int .i64 t125, .int .i64 t126] 25 (0, 0)) (by (with_reducible repeat (first | refine bR ?_ | refine bA ?_ _)); exact BK122.out) hb)
    have n1_ := aK (blk_below (g := gb123) (o := .cells #[.int .i64 t127, .int .i64 t128] 25 (0, 0)) (by (with_reducible repeat (first | refine bR ?_ | refine bA ?_ _)); exact BK123.out) hb)
    have n2_ := aK (blk_below (g := gb124) (o := .cells #[.int .i64 0, .int .i64 0] 25 (0, 0)) (by (with_reducible repeat (first | refine bR ?_ | refine bA ?_ _)); exact BK124.out) hb)
    have n3_ := aK (below_step (by repeat (first | (with_reducible first | exact HB.out | apply hA | apply hN | apply hD | refine below_set ?_ GE122.out | refine below_set ?_ GE123.out | refine below_set ?_ GE124.out) | exact HB.out)) hb)
    clear BK122
    clear BK123
    clear BK124
    clear HB
    have BK122 := n0_
    have BK123 := n1_
    have BK124 := n2_
    have HB := n3_
    clear n0_ n1_ n2_ n3_
    (try clear hb)
    (try clear hb2)
    (try clear hk)
    (try clear hi)
    refine hK.out _ _ ⟨(blk_cell BK122.out 0).trans rfl, (blk_cell BK122.out 1).trans rfl, (blk_cell BK123.out 0).trans rfl, (blk_cell BK123.out 1).trans rfl⟩ (fun hHeld => ?_)
    clear hK K
    refine norm_ (a' := ?_) ?_ ?_
    rotate_left
    · show Act.put _ (some 16) _ = _
      simp only [Act.put, sA, sB, sC, i64_w, i32_w]
      rfl
    refine pure_ (i := 2) (N := some 17) (v := ?_) (a' := ?_) #[Y,Y,Y,Z,Z,Z,Z,Z] rfl rfl (any_of HT_.out (by kernel_rfl)) (fun _ _ _ h => h) (Or.inl ⟨by rfl, ?_⟩) ?_ ?_
    rotate_left
    · intro w'
      go_simp
      with_reducible rfl
    rotate_left
    · simp only [Act.put, sA, sB, sC, i64_w, i32_w]
      rfl
    refine pure_ (i := 3) (N := some 18) (v := ?_) (a' := ?_) #[Y,Y,Y,Y,Z,Z,Z,Z] rfl rfl (any_of HT_.out (by kernel_rfl)) (fun _ _ _ h => h) (Or.inl ⟨by rfl, ?_⟩) ?_ ?_
    rotate_left
    · intro w'
      go_simp
      with_reducible rfl
    rotate_left
    · simp only [Act.put, sA, sB, sC, i64_w, i32_w]
      rfl
    refine take_ (i := 4) (N := some 19) (v := ?_) (a' := ?_) #[Y,Y,Y,Y,Y,Z,Z,Z] rfl rfl (take_ofW HT_.out HW_.out (by kernel_rfl)) (fun _ _ _ h => h) (Or.inl ⟨by rfl, ?_⟩) hHeld ?_ ?_
    rotate_left
    · rintro w' ⟨s0, s1, s2, s3⟩
      go_simp
      with_reducible rfl
    rotate_left
    · simp only [Act.put, sA, sB, sC, i64_w, i32_w]
      rfl
    refine one_ (i := 5) (N := some 20) #[Y,Y,Y,Y,Y,Y,Z,Z] rfl rfl (one_of HT_.out (by kernel_rfl)) (by decide) (fun K hK => ?_)
    refine goes_ Tryd.func9 (by kernel_rfl) rfl #[] (by rfl) rfl rfl (by (try simp only [mA, mB, mC]); first | done | rfl) ?_
    with_reducible refine (congruence_None.calls  t131 t132 _ A22.out).mono ?_
    rintro e w26 ⟨rfl, hb⟩
    refine ⟨_, rfl, ?_⟩
    have n0_ := aK (blk_below (g := gb122) (o := .cells #[.int .i64 t125, .int .i64 t126] 25 (0, 0)) (by (with_reducible repeat (first | refine bR ?_ | refine bA ?_ _)); exact BK122.out) hb)
    have n1_ := aK (blk_below (g := gb123) (o := .cells #[.int .i64 t127, .int .i64 t128] 25 (0, 0)) (by (with_reducible repeat (first | refine bR ?_ | refine bA ?_ _)); exact BK123.out) hb)
    have n2_ := aK (blk_below (g := gb124) (o := .cells #[.int .i64 0, .int .i64 0] 25 (0, 0)) (by (with_reducible repeat (first | refine bR ?_ | refine bA ?_ _)); exact BK124.out) hb)
    have n3_ := aK (below_step (by repeat (first | (with_reducible first | exact HB.out | apply hA | apply hN | apply hD | refine below_set ?_ GE122.out | refine below_set ?_ GE123.out | refine below_set ?_ GE124.out) | exact HB.out)) hb)
    clear BK122
    clear BK123
    clear BK124
    clear HB
    have BK122 := n0_
    have BK123 := n1_
    have BK124 := n2_
    have HB := n3_
    clear n0_ n1_ n2_ n3_
    (try clear hb)
    (try clear hb2)
    (try clear hk)
    (try clear hi)
    refine hK.out _ _ ⟨(blk_cell BK122.out 0).trans rfl, (blk_cell BK122.out 1).trans rfl, (blk_cell BK123.out 0).trans rfl, (blk_cell BK123.out 1).trans rfl⟩ (fun hHeld => ?_)
    clear hK K
    refine norm_ (a' := ?_) ?_ ?_
    rotate_left
    · show Act.put _ (some 20) _ = _
      simp only [Act.put, sA, sB, sC, i64_w, i32_w]
      rfl
    refine pure_ (i := 6) (N := some 21) (v := ?_) (a' := ?_) #[Y,Y,Y,Y,Y,Y,Y,Z] rfl rfl (any_of HT_.out (by kernel_rfl)) (fun _ _ _ h => h) (Or.inl ⟨by rfl, ?_⟩) ?_ ?_
    rotate_left
    · intro w'
      go_simp
      with_reducible rfl
    rotate_left
    · simp only [Act.put, sA, sB, sC, i64_w, i32_w]
      rfl
    refine pure_ (i := 7) (N := some 22) (v := ?_) (a' := ?_) #[Y,Y,Y,Y,Y,Y,Y,Y] rfl rfl (any_of HT_.out (by kernel_rfl)) (fun _ _ _ h => h) (Or.inl ⟨by rfl, ?_⟩) ?_ ?_
    rotate_left
    · intro w'
      go_simp
      with_reducible rfl
    rotate_left
    · simp only [Act.put, sA, sB, sC, i64_w, i32_w]
      rfl
    refine done_ (done_of HT_.out (by kernel_rfl)) ?_
    try go_wp2
    go_meet
    case rel => exact ⟨_, ((t127 == t131 && (t128 == t132))), (by first | rfl | (simp; done) | (simp [*]; done)), H', ⟨by first | omega | exact Nat.le_refl _⟩, ⟨by (with_reducible repeat (first | refine bR ?_ | refine bA ?_ _)); exact BK122.out⟩, ⟨by (with_reducible repeat (first | refine bR ?_ | refine bA ?_ _)); exact BK123.out⟩, ⟨by (with_reducible repeat (first | refine bR ?_ | refine bA ?_ _)); exact BK124.out⟩, ⟨by repeat (first | (with_reducible first | exact HB.out | apply hA | apply hN | apply hD | refine below_set ?_ GE122.out | refine below_set ?_ GE123.out | refine below_set ?_ GE124.out) | exact HB.out)⟩⟩
 case rest =>
  clear HC6
  try clear c1
  try clear c2
  try clear p2
  try clear c9
  try clear c10
  try clear c18
  try clear c18b0
  try clear c18b1
  try clear c18b2
  try clear c24
  obtain ⟨kq, x22_5, rfl, HA, HJ5, BK122, BK123, BK124, HB⟩ := hcut
  cases kq with
  | zero => exact absurd HA.out (by simp [congruence_Do.j0])
  | succ kj5 =>
   have H := HA.out
   clear HA
   simp only [congruence_Do.j0] at H
   by_cases c27 : x22_5 = true
   · subst c27
     have H1 : ((congruence_None.f).bind fun bt133 => (some (bt133.1, bt133.2))) = some (r1, r2) := by rw [if_pos rfl] at H; exact H
     clear H
     have H := H1
     clear H1
     replace H := Option.bind_eq_some_iff.mp H
     obtain ⟨⟨t133, t134⟩, A280, H⟩ := H
     replace H : (some (t133, t134)) = some (r1, r2) := H
     have A28 := aK A280
     clear A280
     simp only [Option.some.injEq, Prod.mk.injEq] at H
     obtain ⟨rfl, rfl⟩ := H
     go_wp2_with (first | ((with_reducible refine gate_callee (f := 9) rfl ?_); refine goesL_ (some 23) rfl rfl Tryd.func9 (by kernel_rfl) rfl #[] rfl (by (try simp only [mA, mB, mC]); first | done | rfl) ?_; (with_reducible refine (congruence_None.calls  t133 t134 _ A28.out).mono ?_); rintro e w29 ⟨rfl, hb⟩; refine ⟨_, rfl, ?_⟩; have n0_ := aK (blk_below (g := gb122) (o := .cells #[.int .i64 t125, .int .i64 t126] 25 (0, 0)) (by (with_reducible repeat (first | refine bR ?_ | refine bA ?_ _)); exact BK122.out) hb); have n1_ := aK (blk_below (g := gb123) (o := .cells #[.int .i64 t127, .int .i64 t128] 25 (0, 0)) (by (with_reducible repeat (first | refine bR ?_ | refine bA ?_ _)); exact BK123.out) hb); have n2_ := aK (blk_below (g := gb124) (o := .cells #[.int .i64 0, .int .i64 0] 25 (0, 0)) (by (with_reducible repeat (first | refine bR ?_ | refine bA ?_ _)); exact BK124.out) hb); have n3_ := aK (below_step (by repeat (first | (with_reducible first | exact HB.out | apply hA | apply hN | apply hD | refine below_set ?_ GE122.out | refine below_set ?_ GE123.out | refine below_set ?_ GE124.out) | exact HB.out)) hb); clear BK122; clear BK123; clear BK124; clear HB; have BK122 := n0_; have BK123 := n1_; have BK124 := n2_; have HB := n3_; clear n0_ n1_ n2_ n3_; (try clear hb); (try clear hb2); (try clear hk); (try clear hi); have hnb30 := NB124_122.out; have hnc30 := NB122_124.out; have hnb31 := NB124_123.out; have hnc31 := NB123_124.out; have hcz32_0 : w29.cell? ⟨gb124, 0, none⟩ = some (.int .i64 0) := (blk_cell BK124.out 0).trans rfl; have hcz32_1 : w29.cell? ⟨gb124, 1, none⟩ = some (.int .i64 0) := (blk_cell BK124.out 1).trans rfl; have hfz32_0 := blk_frozen BK124.out 0; have hfz32_1 := blk_frozen BK124.out 1))
     refine bodyPost_ret (results_cell_row rfl _ _ gb124 25 #[.int .i64 t133, .int .i64 t134] (0, 0) _ rfl (by (with_reducible repeat (first | refine bR ?_ | refine bA ?_ _)); refine blk_put (cs := #[.int .i64 t133, .int .i64 0]) ?_ 1 _ rfl; (with_reducible repeat (first | refine bR ?_ | refine bA ?_ _)); refine blk_put (cs := #[.int .i64 0, .int .i64 0]) ?_ 0 _ rfl; (with_reducible repeat (first | refine bR ?_ | refine bA ?_ _)); exact BK124.out) Tryd.underlying25 rfl (by kernel_rfl)) rfl ?_
     exact ⟨by first | rfl | (simp [errW_none, errW_some] <;> rfl) | (simp [*, errW_none, errW_some] <;> rfl), by repeat (first | (with_reducible first | exact HB.out | apply hA | apply hN | apply hD | refine below_set ?_ GE122.out | refine below_set ?_ GE123.out | refine below_set ?_ GE124.out) | exact HB.out)⟩
   · replace c27 := Bool.eq_false_iff.mpr c27
     subst c27
     have H1 : ((word_Do.f a0 t126 t128).bind fun bt135 => (if bt135.2 = 0 then (if t125 = 0 then (congruence_Do.j1 kj5 a0 bt135.1 (t127 == 0) t125 t126 t127 t128) else (congruence_Do.j1 kj5 a0 bt135.1 false t125 t126 t127 t128)) else ((congruence_All.f).bind fun bt137 => (some (bt137.1, bt137.2))))) = some (r1, r2) := by rw [if_neg (show ¬ (false = true) by decide)] at H; exact H
     clear H
     have H := H1
     clear H1
     replace H := Option.bind_eq_some_iff.mp H
     obtain ⟨⟨t135, t136⟩, A330, H⟩ := H
     replace H : (if t136 = 0 then (if t125 = 0 then (congruence_Do.j1 kj5 a0 t135 (t127 == 0) t125 t126 t127 t128) else (congruence_Do.j1 kj5 a0 t135 false t125 t126 t127 t128)) else ((congruence_All.f).bind fun bt137 => (some (bt137.1, bt137.2)))) = some (r1, r2) := H
     have A33 := aK A330
     clear A330
     by_cases c34 : t136 = 0
     · rw [if_pos c34] at H
       have c34b0 : (t136 == 0) = true := beq_iff_eq.mpr c34
       have c34b1 : (t136 != 0) = false := bne_eq_false_iff_eq.mpr c34
       clear c34
       have HC35 := aK H
       clear H
       have hnb36 := NB122_123.out
       have hnc36 := NB123_122.out
       have hnb37 := NB122_124.out
       have hnc37 := NB124_122.out
       have hcz38_0 : wc.cell? ⟨gb122, 0, none⟩ = some (.int .i64 t125) := (blk_cell BK122.out 0).trans rfl
       have hcz38_1 : wc.cell? ⟨gb122, 1, none⟩ = some (.int .i64 t126) := (blk_cell BK122.out 1).trans rfl
       have hfz38_0 := blk_frozen BK122.out 0
       have hfz38_1 := blk_frozen BK122.out 1
       have hnb39 := NB123_124.out
       have hnc39 := NB124_123.out
       have hcz40_0 : wc.cell? ⟨gb123, 0, none⟩ = some (.int .i64 t127) := (blk_cell BK123.out 0).trans rfl
       have hcz40_1 : wc.cell? ⟨gb123, 1, none⟩ = some (.int .i64 t128) := (blk_cell BK123.out 1).trans rfl
       have hfz40_0 := blk_frozen BK123.out 0
       have hfz40_1 := blk_frozen BK123.out 1
       go_upto_region 7 with (first | ((with_reducible refine gate_callee (f := 25) rfl ?_); refine goesL_ (some 30) rfl rfl Tryd.func25 (by kernel_rfl) rfl #[.int .i64 a0, .int .i64 t126, .int .i64 t128] rfl (by (try simp only [mA, mB, mC]); first | done | rfl) ?_; (with_reducible refine (word_Do.calls a0 t126 t128 t135 t136 _ A33.out).mono ?_); rintro e w41 ⟨rfl, hb⟩; refine ⟨_, rfl, ?_⟩; have n0_ := aK (blk_below (g := gb122) (o := .cells #[.int .i64 t125, .int .i64 t126] 25 (0, 0)) (by (with_reducible repeat (first | refine bR ?_ | refine bA ?_ _)); exact BK122.out) hb); have n1_ := aK (blk_below (g := gb123) (o := .cells #[.int .i64 t127, .int .i64 t128] 25 (0, 0)) (by (with_reducible repeat (first | refine bR ?_ | refine bA ?_ _)); exact BK123.out) hb); have n2_ := aK (blk_below (g := gb124) (o := .cells #[.int .i64 0, .int .i64 0] 25 (0, 0)) (by (with_reducible repeat (first | refine bR ?_ | refine bA ?_ _)); exact BK124.out) hb); have n3_ := aK (below_step (by repeat (first | (with_reducible first | exact HB.out | apply hA | apply hN | apply hD | refine below_set ?_ GE122.out | refine below_set ?_ GE123.out | refine below_set ?_ GE124.out) | exact HB.out)) hb); clear BK122; clear BK123; clear BK124; clear HB; have BK122 := n0_; have BK123 := n1_; have BK124 := n2_; have HB := n3_; clear n0_ n1_ n2_ n3_; (try clear hb); (try clear hb2); (try clear hk); (try clear hi)))
       (try simp only [Act.put, sA, sB, sC])
       go_cut [43] (fun v43 wc => ∃ (kq : Nat) (x43_34 : Bool), v43 = .bool x43_34 ∧ Aside0 (congruence_Do.j1 kq a0 t135 x43_34 t125 t126 t127 t128 = some (r1, r2)) ∧ Aside0 (kq ≤ kj5) ∧ Aside0 (wc.heap[gb122]? = some (.cells #[.int .i64 t125, .int .i64 t126] 25 (0, 0))) ∧ Aside0 (wc.heap[gb123]? = some (.cells #[.int .i64 t127, .int .i64 t128] 25 (0, 0))) ∧ Aside0 (wc.heap[gb124]? = some (.cells #[.int .i64 0, .int .i64 0] 25 (0, 0))) ∧ Aside0 (Below w.heap.size w wc))
       case first =>
        have H := HC35.out
        clear HC35
        by_cases c42 : t125 = 0
        · rw [if_pos c42] at H
          have c42b0 : (t125 == 0) = true := beq_iff_eq.mpr c42
          have c42b1 : (t125 != 0) = false := bne_eq_false_iff_eq.mpr c42
          clear c42
          (first | rw [c42b0] | (simp only [i64_w, i32_w]; rw [c42b0]) | skip)
          have H' := aK H
          clear H
          have hnb43 := NB122_123.out
          have hnc43 := NB123_122.out
          have hnb44 := NB122_124.out
          have hnc44 := NB124_122.out
          have hcz45_0 : w41.cell? ⟨gb122, 0, none⟩ = some (.int .i64 t125) := (blk_cell BK122.out 0).trans rfl
          have hcz45_1 : w41.cell? ⟨gb122, 1, none⟩ = some (.int .i64 t126) := (blk_cell BK122.out 1).trans rfl
          have hfz45_0 := blk_frozen BK122.out 0
          have hfz45_1 := blk_frozen BK122.out 1
          have hnb46 := NB123_124.out
          have hnc46 := NB124_123.out
          have hcz47_0 : w41.cell? ⟨gb123, 0, none⟩ = some (.int .i64 t127) := (blk_cell BK123.out 0).trans rfl
          have hcz47_1 : w41.cell? ⟨gb123, 1, none⟩ = some (.int .i64 t128) := (blk_cell BK123.out 1).trans rfl
          have hfz47_0 := blk_frozen BK123.out 0
          have hfz47_1 := blk_frozen BK123.out 1
          go_wp2
          go_meet
          case rel => exact ⟨_, ((t127 == 0)), (by first | rfl | (simp; done) | (simp [*]; done)), H', ⟨by have := HJ5.out; first | omega | exact Nat.le_refl _⟩, ⟨by (with_reducible repeat (first | refine bR ?_ | refine bA ?_ _)); exact BK122.out⟩, ⟨by (with_reducible repeat (first | refine bR ?_ | refine bA ?_ _)); exact BK123.out⟩, ⟨by (with_reducible repeat (first | refine bR ?_ | refine bA ?_ _)); exact BK124.out⟩, ⟨by repeat (first | (with_reducible first | exact HB.out | apply hA | apply hN | apply hD | refine below_set ?_ GE122.out | refine below_set ?_ GE123.out | refine below_set ?_ GE124.out) | exact HB.out)⟩⟩
        · rw [if_neg c42] at H
          have c42b0 : (t125 == 0) = false := beq_eq_false_iff_ne.mpr c42
          have c42b1 : (t125 != 0) = true := bne_iff_ne.mpr c42
          (first | rw [c42b0] | (simp only [i64_w, i32_w]; rw [c42b0]) | skip)
          have H' := aK H
          clear H
          have hnb48 := NB122_123.out
          have hnc48 := NB123_122.out
          have hnb49 := NB122_124.out
          have hnc49 := NB124_122.out
          have hcz50_0 : w41.cell? ⟨gb122, 0, none⟩ = some (.int .i64 t125) := (blk_cell BK122.out 0).trans rfl
          have hcz50_1 : w41.cell? ⟨gb122, 1, none⟩ = some (.int .i64 t126) := (blk_cell BK122.out 1).trans rfl
          have hfz50_0 := blk_frozen BK122.out 0
          have hfz50_1 := blk_frozen BK122.out 1
          go_wp2
          go_meet
          case rel => exact ⟨_, (false), (by first | rfl | (simp; done) | (simp [*]; done)), H', ⟨by have := HJ5.out; first | omega | exact Nat.le_refl _⟩, ⟨by (with_reducible repeat (first | refine bR ?_ | refine bA ?_ _)); exact BK122.out⟩, ⟨by (with_reducible repeat (first | refine bR ?_ | refine bA ?_ _)); exact BK123.out⟩, ⟨by (with_reducible repeat (first | refine bR ?_ | refine bA ?_ _)); exact BK124.out⟩, ⟨by repeat (first | (with_reducible first | exact HB.out | apply hA | apply hN | apply hD | refine below_set ?_ GE122.out | refine below_set ?_ GE123.out | refine below_set ?_ GE124.out) | exact HB.out)⟩⟩
       case rest =>
        clear HC35
        try clear c1
        try clear c2
        try clear p2
        try clear c3
        try clear c4
        try clear c9
        try clear c10
        try clear c18
        try clear c18b0
        try clear c18b1
        try clear c18b2
        try clear c24
        try clear c25
        try clear c27
        try clear c30
        try clear c31
        try clear c34
        try clear c34b0
        try clear c34b1
        try clear c36
        try clear c37
        try clear c39
        try clear c42
        try clear c42b0
        try clear c42b1
        try clear c43
        try clear c44
        try clear c46
        try clear c48
        try clear c49
        try clear hcz32_0
        try clear hcz32_1
        try clear hcz38_0
        try clear hcz38_1
        try clear hcz40_0
        try clear hcz40_1
        try clear hcz45_0
        try clear hcz45_1
        try clear hcz47_0
        try clear hcz47_1
        try clear hcz50_0
        try clear hcz50_1
        try clear hfz32_0
        try clear hfz32_1
        try clear hfz38_0
        try clear hfz38_1
        try clear hfz40_0
        try clear hfz40_1
        try clear hfz45_0
        try clear hfz45_1
        try clear hfz47_0
        try clear hfz47_1
        try clear hfz50_0
        try clear hfz50_1
        try clear p2
        obtain ⟨kq, x43_34, rfl, HA, HJ34, BK122, BK123, BK124, HB⟩ := hcut
        cases kq with
        | zero => exact absurd HA.out (by simp [congruence_Do.j1])
        | succ kj34 =>
         have H := HA.out
         clear HA
         simp only [congruence_Do.j1] at H
         by_cases c51 : x43_34 = true
         · subst c51
           have H1 : ((congruence_Of.f t135).bind fun bt139 => (some (bt139.1, bt139.2))) = some (r1, r2) := by rw [if_pos rfl] at H; exact H
           clear H
           have H := H1
           clear H1
           replace H := Option.bind_eq_some_iff.mp H
           obtain ⟨⟨t139, t140⟩, A520, H⟩ := H
           replace H : (some (t139, t140)) = some (r1, r2) := H
           have A52 := aK A520
           clear A520
           simp only [Option.some.injEq, Prod.mk.injEq] at H
           obtain ⟨rfl, rfl⟩ := H
           go_wp2_with (first | ((with_reducible refine gate_callee (f := 16) rfl ?_); refine goesL_ (some 45) rfl rfl Tryd.func16 (by kernel_rfl) rfl #[.int .i64 t135] rfl (by (try simp only [mA, mB, mC]); first | done | rfl) ?_; (with_reducible refine (congruence_Of.calls t135 t139 t140 _ A52.out).mono ?_); rintro e w53 ⟨rfl, hb⟩; refine ⟨_, rfl, ?_⟩; have n0_ := aK (blk_below (g := gb122) (o := .cells #[.int .i64 t125, .int .i64 t126] 25 (0, 0)) (by (with_reducible repeat (first | refine bR ?_ | refine bA ?_ _)); exact BK122.out) hb); have n1_ := aK (blk_below (g := gb123) (o := .cells #[.int .i64 t127, .int .i64 t128] 25 (0, 0)) (by (with_reducible repeat (first | refine bR ?_ | refine bA ?_ _)); exact BK123.out) hb); have n2_ := aK (blk_below (g := gb124) (o := .cells #[.int .i64 0, .int .i64 0] 25 (0, 0)) (by (with_reducible repeat (first | refine bR ?_ | refine bA ?_ _)); exact BK124.out) hb); have n3_ := aK (below_step (by repeat (first | (with_reducible first | exact HB.out | apply hA | apply hN | apply hD | refine below_set ?_ GE122.out | refine below_set ?_ GE123.out | refine below_set ?_ GE124.out) | exact HB.out)) hb); clear BK122; clear BK123; clear BK124; clear HB; have BK122 := n0_; have BK123 := n1_; have BK124 := n2_; have HB := n3_; clear n0_ n1_ n2_ n3_; (try clear hb); (try clear hb2); (try clear hk); (try clear hi); have hnb54 := NB124_122.out; have hnc54 := NB122_124.out; have hnb55 := NB124_123.out; have hnc55 := NB123_124.out; have hcz56_0 : w53.cell? ⟨gb124, 0, none⟩ = some (.int .i64 0) := (blk_cell BK124.out 0).trans rfl; have hcz56_1 : w53.cell? ⟨gb124, 1, none⟩ = some (.int .i64 0) := (blk_cell BK124.out 1).trans rfl; have hfz56_0 := blk_frozen BK124.out 0; have hfz56_1 := blk_frozen BK124.out 1))
           refine bodyPost_ret (results_cell_row rfl _ _ gb124 25 #[.int .i64 t139, .int .i64 t140] (0, 0) _ rfl (by (with_reducible repeat (first | refine bR ?_ | refine bA ?_ _)); refine blk_put (cs := #[.int .i64 t139, .int .i64 0]) ?_ 1 _ rfl; (with_reducible repeat (first | refine bR ?_ | refine bA ?_ _)); refine blk_put (cs := #[.int .i64 0, .int .i64 0]) ?_ 0 _ rfl; (with_reducible repeat (first | refine bR ?_ | refine bA ?_ _)); exact BK124.out) Tryd.underlying25 rfl (by kernel_rfl)) rfl ?_
           exact ⟨by first | rfl | (simp [errW_none, errW_some] <;> rfl) | (simp [*, errW_none, errW_some] <;> rfl), by repeat (first | (with_reducible first | exact HB.out | apply hA | apply hN | apply hD | refine below_set ?_ GE122.out | refine below_set ?_ GE123.out | refine below_set ?_ GE124.out) | exact HB.out)⟩
         · replace c51 := Bool.eq_false_iff.mpr c51
           subst c51
           have H1 : ((congruence_width.f t125 t126).bind fun t141 => ((congruence_width.f t127 t128).bind fun t142 => (if a0 = 1 then (congruence_Do.j2 kj34 a0 t135 (mn t141 t142) a0 (a0 == 1) t125 t126 t127 t128) else (if a0 = 2 then (congruence_Do.j2 kj34 a0 t135 (mn t141 t142) a0 (a0 == 2) t125 t126 t127 t128) else (if a0 = 3 then (congruence_Do.j2 kj34 a0 t135 (mn t141 t142) a0 (a0 == 3) t125 t126 t127 t128) else (if a0 = 6 then (congruence_Do.j2 kj34 a0 t135 (mn t141 t142) a0 (a0 == 6) t125 t126 t127 t128) else (if a0 = 7 then (congruence_Do.j2 kj34 a0 t135 (mn t141 t142) a0 (a0 == 7) t125 t126 t127 t128) else (congruence_Do.j2 kj34 a0 t135 (mn t141 t142) a0 (a0 == 8) t125 t126 t127 t128)))))))) = some (r1, r2) := by rw [if_neg (show ¬ (false = true) by decide)] at H; exact H
           clear H
           have H := H1
           clear H1
           replace H := Option.bind_eq_some_iff.mp H
           obtain ⟨t141, A570, H⟩ := H
           replace H : ((congruence_width.f t127 t128).bind fun t142 => (if a0 = 1 then (congruence_Do.j2 kj34 a0 t135 (mn t141 t142) a0 (a0 == 1) t125 t126 t127 t128) else (if a0 = 2 then (congruence_Do.j2 kj34 a0 t135 (mn t141 t142) a0 (a0 == 2) t125 t126 t127 t128) else (if a0 = 3 then (congruence_Do.j2 kj34 a0 t135 (mn t141 t142) a0 (a0 == 3) t125 t126 t127 t128) else (if a0 = 6 then (congruence_Do.j2 kj34 a0 t135 (mn t141 t142) a0 (a0 == 6) t125 t126 t127 t128) else (if a0 = 7 then (congruence_Do.j2 kj34 a0 t135 (mn t141 t142) a0 (a0 == 7) t125 t126 t127 t128) else (congruence_Do.j2 kj34 a0 t135 (mn t141 t142) a0 (a0 == 8) t125 t126 t127 t128))))))) = some (r1, r2) := H
           have A57 := aK A570
           clear A570
           replace H := Option.bind_eq_some_iff.mp H
           obtain ⟨t142, A580, H⟩ := H
           replace H : (if a0 = 1 then (congruence_Do.j2 kj34 a0 t135 (mn t141 t142) a0 (a0 == 1) t125 t126 t127 t128) else (if a0 = 2 then (congruence_Do.j2 kj34 a0 t135 (mn t141 t142) a0 (a0 == 2) t125 t126 t127 t128) else (if a0 = 3 then (congruence_Do.j2 kj34 a0 t135 (mn t141 t142) a0 (a0 == 3) t125 t126 t127 t128) else (if a0 = 6 then (congruence_Do.j2 kj34 a0 t135 (mn t141 t142) a0 (a0 == 6) t125 t126 t127 t128) else (if a0 = 7 then (congruence_Do.j2 kj34 a0 t135 (mn t141 t142) a0 (a0 == 7) t125 t126 t127 t128) else (congruence_Do.j2 kj34 a0 t135 (mn t141 t142) a0 (a0 == 8) t125 t126 t127 t128)))))) = some (r1, r2) := H
           have A58 := aK A580
           clear A580
           obtain ⟨ji59, hji59⟩ : ∃ j_ : Int, (mn t141 t142) = j_ := ⟨_, rfl⟩
           replace H : (if a0 = 1 then (congruence_Do.j2 kj34 a0 t135 ji59 a0 (a0 == 1) t125 t126 t127 t128) else (if a0 = 2 then (congruence_Do.j2 kj34 a0 t135 ji59 a0 (a0 == 2) t125 t126 t127 t128) else (if a0 = 3 then (congruence_Do.j2 kj34 a0 t135 ji59 a0 (a0 == 3) t125 t126 t127 t128) else (if a0 = 6 then (congruence_Do.j2 kj34 a0 t135 ji59 a0 (a0 == 6) t125 t126 t127 t128) else (if a0 = 7 then (congruence_Do.j2 kj34 a0 t135 ji59 a0 (a0 == 7) t125 t126 t127 t128) else (congruence_Do.j2 kj34 a0 t135 ji59 a0 (a0 == 8) t125 t126 t127 t128)))))) = some (r1, r2) := by first | (rw [hji59] at H; exact H) | (simp only [hji59] at H ⊢; exact H)
           (try rw [hji59] at A57)
           (try rw [hji59] at A58)
           have hji59_ : (if t142 < t141 then t142 else t141) = ji59 := hji59
           have HC60 := aK H
           clear H
           try go_wp2
           have n0_ := aK (blk_drew BK122.out)
           have n1_ := aK (blk_drew BK123.out)
           have n2_ := aK (blk_drew BK124.out)
           have n3_ := aK (below_drew1 HB.out)
           clear BK122
           clear BK123
           clear BK124
           clear HB
           have BK122 := n0_
           have BK123 := n1_
           have BK124 := n2_
           have HB := n3_
           clear n0_ n1_ n2_ n3_
           refine start_ (n := 6) (S := fun w' => w'.cell? ⟨gb122, 0, none⟩ = some (.int .i64 t125) ∧ w'.cell? ⟨gb122, 1, none⟩ = some (.int .i64 t126) ∧ w'.cell? ⟨gb123, 0, none⟩ = some (.int .i64 t127) ∧ w'.cell? ⟨gb123, 1, none⟩ = some (.int .i64 t128)) (ds := []) #[Z,Z,Z,Z,Z,Z] (by kernel_rfl) rfl rfl ⟨(blk_cell BK122.out 0).trans rfl, (blk_cell BK122.out 1).trans rfl, (blk_cell BK123.out 0).trans rfl, (blk_cell BK123.out 1).trans rfl⟩ (fun hHeld => ?_)
           generalize wc.drew = w61 at BK122 BK123 BK124 HB hHeld ⊢
           refine take_ (i := 0) (N := some 46) (v := ?_) (a' := ?_) #[Y,Z,Z,Z,Z,Z] rfl rfl (by kernel_rfl) (fun _ _ _ h => h) (Or.inl ⟨by rfl, ?_⟩) hHeld ?_ ?_
           rotate_left
           · rintro w' ⟨s0, s1, s2, s3⟩
             go_simp
             with_reducible rfl
           rotate_left
           · simp only [Act.put, sA, sB, sC, i64_w, i32_w]
             rfl
           refine take_ (i := 2) (N := some 48) (v := ?_) (a' := ?_) #[Y,Z,Y,Z,Z,Z] rfl rfl (by kernel_rfl) (fun _ _ _ h => h) (Or.inl ⟨by rfl, ?_⟩) hHeld ?_ ?_
           rotate_left
           · rintro w' ⟨s0, s1, s2, s3⟩
             go_simp
             with_reducible rfl
           rotate_left
           · simp only [Act.put, sA, sB, sC, i64_w, i32_w]
             rfl
           refine one_ (i := 1) (N := some 47) #[Y,Y,Y,Z,Z,Z] rfl rfl (by kernel_rfl) (by decide) (fun K hK => ?_)
           refine goes_ Tryd.func26 (by kernel_rfl) rfl #[.agg #[.int .i64 t125, .int .i64 t126]] (by rfl) rfl rfl (by (try simp only [mA, mB, mC]); first | done | rfl) ?_
           with_reducible refine (congruence_width.calls t125 t126 t141 _ A57.out (Go.Proofs.YtaphfmbloappkaaDoor.TabOK.below hT.out (by repeat (first | (with_reducible first | exact HB.out | apply hA | apply hN | apply hD | refine below_set ?_ GE122.out | refine below_set ?_ GE123.out | refine below_set ?_ GE124.out) | exact HB.out)))).mono ?_
           rintro e w62 ⟨rfl, hb⟩
           refine ⟨_, rfl, ?_⟩
           have n0_ := aK (blk_below (g := gb122) (o := .cells #[.int .i64 t125, .int .i64 t126] 25 (0, 0)) (by (with_reducible repeat (first | refine bR ?_ | refine bA ?_ _)); exact BK122.out) hb)
           have n1_ := aK (blk_below (g := gb123) (o := .cells #[.int .i64 t127, .int .i64 t128] 25 (0, 0)) (by (with_reducible repeat (first | refine bR ?_ | refine bA ?_ _)); exact BK123.out) hb)
           have n2_ := aK (blk_below (g := gb124) (o := .cells #[.int .i64 0, .int .i64 0] 25 (0, 0)) (by (with_reducible repeat (first | refine bR ?_ | refine bA ?_ _)); exact BK124.out) hb)
           have n3_ := aK (below_step (by repeat (first | (with_reducible first | exact HB.out | apply hA | apply hN | apply hD | refine below_set ?_ GE122.out | refine below_set ?_ GE123.out | refine below_set ?_ GE124.out) | exact HB.out)) hb)
           clear BK122
           clear BK123
           clear BK124
           clear HB
           have BK122 := n0_
           have BK123 := n1_
           have BK124 := n2_
           have HB := n3_
           clear n0_ n1_ n2_ n3_
           (try clear hb)
           (try clear hb2)
           (try clear hk)
           (try clear hi)
           refine hK.out _ _ ⟨(blk_cell BK122.out 0).trans rfl, (blk_cell BK122.out 1).trans rfl, (blk_cell BK123.out 0).trans rfl, (blk_cell BK123.out 1).trans rfl⟩ (fun hHeld => ?_)
           clear hK K
           refine norm_ (a' := ?_) ?_ ?_
           rotate_left
           · show Act.put _ (some 47) _ = _
             simp only [Act.put, sA, sB, sC, i64_w, i32_w]
             rfl
           refine one_ (i := 3) (N := some 49) #[Y,Y,Y,Y,Z,Z] rfl rfl (by kernel_rfl) (by decide) (fun K hK => ?_)
           refine goes_ Tryd.func26 (by kernel_rfl) rfl #[.agg #[.int .i64 t127, .int .i64 t128]] (by rfl) rfl rfl (by (try simp only [mA, mB, mC]); first | done | rfl) ?_
           with_reducible refine (congruence_width.calls t127 t128 t142 _ A58.out (Go.Proofs.YtaphfmbloappkaaDoor.TabOK.below hT.out (by repeat (first | (with_reducible first | exact HB.out | apply hA | apply hN | apply hD | refine below_set ?_ GE122.out | refine below_set ?_ GE123.out | refine below_set ?_ GE124.out) | exact HB.out)))).mono ?_
           rintro e w63 ⟨rfl, hb⟩
           refine ⟨_, rfl, ?_⟩
           have n0_ := aK (blk_below (g := gb122) (o := .cells #[.int .i64 t125, .int .i64 t126] 25 (0, 0)) (by (with_reducible repeat (first | refine bR ?_ | refine bA ?_ _)); exact BK122.out) hb)
           have n1_ := aK (blk_below (g := gb123) (o := .cells #[.int .i64 t127, .int .i64 t128] 25 (0, 0)) (by (with_reducible repeat (first | refine bR ?_ | refine bA ?_ _)); exact BK123.out) hb)
           have n2_ := aK (blk_below (g := gb124) (o := .cells #[.int .i64 0, .int .i64 0] 25 (0, 0)) (by (with_reducible repeat (first | refine bR ?_ | refine bA ?_ _)); exact BK124.out) hb)
           have n3_ := aK (below_step (by repeat (first | (with_reducible first | exact HB.out | apply hA | apply hN | apply hD | refine below_set ?_ GE122.out | refine below_set ?_ GE123.out | refine below_set ?_ GE124.out) | exact HB.out)) hb)
           clear BK122
           clear BK123
           clear BK124
           clear HB
           have BK122 := n0_
           have BK123 := n1_
           have BK124 := n2_
           have HB := n3_
           clear n0_ n1_ n2_ n3_
           (try clear hb)
           (try clear hb2)
           (try clear hk)
           (try clear hi)
           refine hK.out _ _ ⟨(blk_cell BK122.out 0).trans rfl, (blk_cell BK122.out 1).trans rfl, (blk_cell BK123.out 0).trans rfl, (blk_cell BK123.out 1).trans rfl⟩ (fun hHeld => ?_)
           clear hK K
           refine norm_ (a' := ?_) ?_ ?_
           rotate_left
           · show Act.put _ (some 49) _ = _
             simp only [Act.put, sA, sB, sC, i64_w, i32_w]
             rfl
           refine pure_ (i := 4) (N := some 50) (v := ?_) (a' := ?_) #[Y,Y,Y,Y,Y,Z] rfl rfl (by kernel_rfl) (fun _ _ _ h => h) (Or.inl ⟨by rfl, ?_⟩) ?_ ?_
           rotate_left
           · intro w'
             go_simp
             with_reducible rfl
           rotate_left
           · simp only [Act.put, sA, sB, sC, i64_w, i32_w]
             rfl
           refine pure_ (i := 5) (N := some 9) (v := ?_) (a' := ?_) #[Y,Y,Y,Y,Y,Y] rfl rfl (by kernel_rfl) (fun _ _ _ h => h) (Or.inl ⟨by rfl, ?_⟩) ?_ ?_
           rotate_left
           · intro w'
             go_simp
             with_reducible rfl
           rotate_left
           · simp only [Act.put, sA, sB, sC, i64_w, i32_w]
             rfl
           refine done_ (by kernel_rfl) ?_
           go_upto_if 52 with (fail)
           go_cut [52] (fun v52 wc => ∃ (kq : Nat) (x52_59 : Bool), v52 = .bool x52_59 ∧ Aside0 (congruence_Do.j2 kq a0 t135 ji59 a0 x52_59 t125 t126 t127 t128 = some (r1, r2)) ∧ Aside0 (kq ≤ kj34) ∧ Aside0 (wc.heap[gb122]? = some (.cells #[.int .i64 t125, .int .i64 t126] 25 (0, 0))) ∧ Aside0 (wc.heap[gb123]? = some (.cells #[.int .i64 t127, .int .i64 t128] 25 (0, 0))) ∧ Aside0 (wc.heap[gb124]? = some (.cells #[.int .i64 0, .int .i64 0] 25 (0, 0))) ∧ Aside0 (Below w.heap.size w wc))
           case first =>
            have H := HC60.out
            clear HC60
            by_cases c64 : a0 = 1
            · rw [if_pos c64] at H
              have c64b0 : (a0 == 1) = true := beq_iff_eq.mpr c64
              have c64b1 : (a0 != 1) = false := bne_eq_false_iff_eq.mpr c64
              clear c64
              (first | rw [c64b0] | (simp only [i64_w, i32_w]; rw [c64b0]) | skip)
              have H' := aK H
              clear H
              go_wp2
              go_meet
              case rel => exact ⟨_, ((a0 == 1)), (by first | rfl | (simp; done) | (simp [*]; done)), H', ⟨by have := HJ5.out; have := HJ34.out; first | omega | exact Nat.le_refl _⟩, ⟨by (with_reducible repeat (first | refine bR ?_ | refine bA ?_ _)); exact BK122.out⟩, ⟨by (with_reducible repeat (first | refine bR ?_ | refine bA ?_ _)); exact BK123.out⟩, ⟨by (with_reducible repeat (first | refine bR ?_ | refine bA ?_ _)); exact BK124.out⟩, ⟨by repeat (first | (with_reducible first | exact HB.out | apply hA | apply hN | apply hD | refine below_set ?_ GE122.out | refine below_set ?_ GE123.out | refine below_set ?_ GE124.out) | exact HB.out)⟩⟩
            · rw [if_neg c64] at H
              have c64b0 : (a0 == 1) = false := beq_eq_false_iff_ne.mpr c64
              have c64b1 : (a0 != 1) = true := bne_iff_ne.mpr c64
              (first | rw [c64b0] | (simp only [i64_w, i32_w]; rw [c64b0]) | skip)
              by_cases c65 : a0 = 2
              · rw [if_pos c65] at H
                have c65b0 : (a0 == 2) = true := beq_iff_eq.mpr c65
                have c65b1 : (a0 != 2) = false := bne_eq_false_iff_eq.mpr c65
                clear c65
                have H' := aK H
                clear H
                go_wp2
                go_meet
                case rel => exact ⟨_, ((a0 == 2)), (by first | rfl | (simp; done) | (simp [*]; done)), H', ⟨by have := HJ5.out; have := HJ34.out; first | omega | exact Nat.le_refl _⟩, ⟨by (with_reducible repeat (first | refine bR ?_ | refine bA ?_ _)); exact BK122.out⟩, ⟨by (with_reducible repeat (first | refine bR ?_ | refine bA ?_ _)); exact BK123.out⟩, ⟨by (with_reducible repeat (first | refine bR ?_ | refine bA ?_ _)); exact BK124.out⟩, ⟨by repeat (first | (with_reducible first | exact HB.out | apply hA | apply hN | apply hD | refine below_set ?_ GE122.out | refine below_set ?_ GE123.out | refine below_set ?_ GE124.out) | exact HB.out)⟩⟩
              · rw [if_neg c65] at H
                have c65b0 : (a0 == 2) = false := beq_eq_false_iff_ne.mpr c65
                have c65b1 : (a0 != 2) = true := bne_iff_ne.mpr c65
                by_cases c66 : a0 = 3
                · rw [if_pos c66] at H
                  have c66b0 : (a0 == 3) = true := beq_iff_eq.mpr c66
                  have c66b1 : (a0 != 3) = false := bne_eq_false_iff_eq.mpr c66
                  clear c66
                  have H' := aK H
                  clear H
                  go_wp2
                  go_meet
                  case rel => exact ⟨_, ((a0 == 3)), (by first | rfl | (simp; done) | (simp [*]; done)), H', ⟨by have := HJ5.out; have := HJ34.out; first | omega | exact Nat.le_refl _⟩, ⟨by (with_reducible repeat (first | refine bR ?_ | refine bA ?_ _)); exact BK122.out⟩, ⟨by (with_reducible repeat (first | refine bR ?_ | refine bA ?_ _)); exact BK123.out⟩, ⟨by (with_reducible repeat (first | refine bR ?_ | refine bA ?_ _)); exact BK124.out⟩, ⟨by repeat (first | (with_reducible first | exact HB.out | apply hA | apply hN | apply hD | refine below_set ?_ GE122.out | refine below_set ?_ GE123.out | refine below_set ?_ GE124.out) | exact HB.out)⟩⟩
                · rw [if_neg c66] at H
                  have c66b0 : (a0 == 3) = false := beq_eq_false_iff_ne.mpr c66
                  have c66b1 : (a0 != 3) = true := bne_iff_ne.mpr c66
                  by_cases c67 : a0 = 6
                  · rw [if_pos c67] at H
                    have c67b0 : (a0 == 6) = true := beq_iff_eq.mpr c67
                    have c67b1 : (a0 != 6) = false := bne_eq_false_iff_eq.mpr c67
                    clear c67
                    have H' := aK H
                    clear H
                    go_wp2
                    go_meet
                    case rel => exact ⟨_, ((a0 == 6)), (by first | rfl | (simp; done) | (simp [*]; done)), H', ⟨by have := HJ5.out; have := HJ34.out; first | omega | exact Nat.le_refl _⟩, ⟨by (with_reducible repeat (first | refine bR ?_ | refine bA ?_ _)); exact BK122.out⟩, ⟨by (with_reducible repeat (first | refine bR ?_ | refine bA ?_ _)); exact BK123.out⟩, ⟨by (with_reducible repeat (first | refine bR ?_ | refine bA ?_ _)); exact BK124.out⟩, ⟨by repeat (first | (with_reducible first | exact HB.out | apply hA | apply hN | apply hD | refine below_set ?_ GE122.out | refine below_set ?_ GE123.out | refine below_set ?_ GE124.out) | exact HB.out)⟩⟩
                  · rw [if_neg c67] at H
                    have c67b0 : (a0 == 6) = false := beq_eq_false_iff_ne.mpr c67
                    have c67b1 : (a0 != 6) = true := bne_iff_ne.mpr c67
                    by_cases c68 : a0 = 7
                    · rw [if_pos c68] at H
                      have c68b0 : (a0 == 7) = true := beq_iff_eq.mpr c68
                      have c68b1 : (a0 != 7) = false := bne_eq_false_iff_eq.mpr c68
                      clear c68
                      have H' := aK H
                      clear H
                      go_wp2
                      go_meet
                      case rel => exact ⟨_, ((a0 == 7)), (by first | rfl | (simp; done) | (simp [*]; done)), H', ⟨by have := HJ5.out; have := HJ34.out; first | omega | exact Nat.le_refl _⟩, ⟨by (with_reducible repeat (first | refine bR ?_ | refine bA ?_ _)); exact BK122.out⟩, ⟨by (with_reducible repeat (first | refine bR ?_ | refine bA ?_ _)); exact BK123.out⟩, ⟨by (with_reducible repeat (first | refine bR ?_ | refine bA ?_ _)); exact BK124.out⟩, ⟨by repeat (first | (with_reducible first | exact HB.out | apply hA | apply hN | apply hD | refine below_set ?_ GE122.out | refine below_set ?_ GE123.out | refine below_set ?_ GE124.out) | exact HB.out)⟩⟩
                    · rw [if_neg c68] at H
                      have c68b0 : (a0 == 7) = false := beq_eq_false_iff_ne.mpr c68
                      have c68b1 : (a0 != 7) = true := bne_iff_ne.mpr c68
                      have H' := aK H
                      clear H
                      go_wp2
                      go_meet
                      case rel => exact ⟨_, ((a0 == 8)), (by first | rfl | (simp; done) | (simp [*]; done)), H', ⟨by have := HJ5.out; have := HJ34.out; first | omega | exact Nat.le_refl _⟩, ⟨by (with_reducible repeat (first | refine bR ?_ | refine bA ?_ _)); exact BK122.out⟩, ⟨by (with_reducible repeat (first | refine bR ?_ | refine bA ?_ _)); exact BK123.out⟩, ⟨by (with_reducible repeat (first | refine bR ?_ | refine bA ?_ _)); exact BK124.out⟩, ⟨by repeat (first | (with_reducible first | exact HB.out | apply hA | apply hN | apply hD | refine below_set ?_ GE122.out | refine below_set ?_ GE123.out | refine below_set ?_ GE124.out) | exact HB.out)⟩⟩
           case rest =>
            clear HC60
            try clear c1
            try clear c2
            try clear p2
            try clear c3
            try clear c4
            try clear c5
            try clear c6
            try clear c9
            try clear c10
            try clear c16
            try clear c18
            try clear c18b0
            try clear c18b1
            try clear c18b2
            try clear c24
            try clear c25
            try clear c26
            try clear c27
            try clear c30
            try clear c31
            try clear c34
            try clear c34b0
            try clear c34b1
            try clear c36
            try clear c37
            try clear c39
            try clear c42
            try clear c42b0
            try clear c42b1
            try clear c43
            try clear c44
            try clear c46
            try clear c48
            try clear c49
            try clear c51
            try clear c54
            try clear c55
            try clear c64
            try clear c64b0
            try clear c64b1
            try clear c65
            try clear c65b0
            try clear c65b1
            try clear c66
            try clear c66b0
            try clear c66b1
            try clear c67
            try clear c67b0
            try clear c67b1
            try clear c68
            try clear c68b0
            try clear c68b1
            try clear hcz32_0
            try clear hcz32_1
            try clear hcz38_0
            try clear hcz38_1
            try clear hcz40_0
            try clear hcz40_1
            try clear hcz45_0
            try clear hcz45_1
            try clear hcz47_0
            try clear hcz47_1
            try clear hcz50_0
            try clear hcz50_1
            try clear hcz56_0
            try clear hcz56_1
            try clear hfz32_0
            try clear hfz32_1
            try clear hfz38_0
            try clear hfz38_1
            try clear hfz40_0
            try clear hfz40_1
            try clear hfz45_0
            try clear hfz45_1
            try clear hfz47_0
            try clear hfz47_1
            try clear hfz50_0
            try clear hfz50_1
            try clear hfz56_0
            try clear hfz56_1
            try clear p2
            obtain ⟨kq, x52_59, rfl, HA, HJ59, BK122, BK123, BK124, HB⟩ := hcut
            cases kq with
            | zero => exact absurd HA.out (by simp [congruence_Do.j2])
            | succ kj59 =>
             have H := HA.out
             clear HA
             simp only [congruence_Do.j2] at H
             by_cases c69 : x52_59 = true
             · subst c69
               have H1 : ((congruence_modulo.f t135 ji59).bind fun bt143 => (some (bt143.1, bt143.2))) = some (r1, r2) := by rw [if_pos rfl] at H; exact H
               clear H
               have H := H1
               clear H1
               replace H := Option.bind_eq_some_iff.mp H
               obtain ⟨⟨t143, t144⟩, A700, H⟩ := H
               replace H : (some (t143, t144)) = some (r1, r2) := H
               have A70 := aK A700
               clear A700
               simp only [Option.some.injEq, Prod.mk.injEq] at H
               obtain ⟨rfl, rfl⟩ := H
               go_wp2_with (first | ((with_reducible refine gate_callee (f := 27) rfl ?_); refine goesL_ (some 61) rfl rfl Tryd.func27 (by kernel_rfl) rfl #[.int .i64 t135, .int .i64 ji59] rfl (by (try simp only [mA, mB, mC]); first | done | (simp only [hji59]; rfl) | rfl | (simp only [List.length_drop, List.length_take]; rfl)) ?_; (with_reducible refine (congruence_modulo.calls t135 ji59 t143 t144 _ A70.out).mono ?_); rintro e w71 ⟨rfl, hb⟩; refine ⟨_, rfl, ?_⟩; have n0_ := aK (blk_below (g := gb122) (o := .cells #[.int .i64 t125, .int .i64 t126] 25 (0, 0)) (by (with_reducible repeat (first | refine bR ?_ | refine bA ?_ _)); exact BK122.out) hb); have n1_ := aK (blk_below (g := gb123) (o := .cells #[.int .i64 t127, .int .i64 t128] 25 (0, 0)) (by (with_reducible repeat (first | refine bR ?_ | refine bA ?_ _)); exact BK123.out) hb); have n2_ := aK (blk_below (g := gb124) (o := .cells #[.int .i64 0, .int .i64 0] 25 (0, 0)) (by (with_reducible repeat (first | refine bR ?_ | refine bA ?_ _)); exact BK124.out) hb); have n3_ := aK (below_step (by repeat (first | (with_reducible first | exact HB.out | apply hA | apply hN | apply hD | refine below_set ?_ GE122.out | refine below_set ?_ GE123.out | refine below_set ?_ GE124.out) | exact HB.out)) hb); clear BK122; clear BK123; clear BK124; clear HB; have BK122 := n0_; have BK123 := n1_; have BK124 := n2_; have HB := n3_; clear n0_ n1_ n2_ n3_; (try clear hb); (try clear hb2); (try clear hk); (try clear hi); have hnb72 := NB124_122.out; have hnc72 := NB122_124.out; have hnb73 := NB124_123.out; have hnc73 := NB123_124.out; have hcz74_0 : w71.cell? ⟨gb124, 0, none⟩ = some (.int .i64 0) := (blk_cell BK124.out 0).trans rfl; have hcz74_1 : w71.cell? ⟨gb124, 1, none⟩ = some (.int .i64 0) := (blk_cell BK124.out 1).trans rfl; have hfz74_0 := blk_frozen BK124.out 0; have hfz74_1 := blk_frozen BK124.out 1))
               refine bodyPost_ret (results_cell_row rfl _ _ gb124 25 #[.int .i64 t143, .int .i64 t144] (0, 0) _ rfl (by (with_reducible repeat (first | refine bR ?_ | refine bA ?_ _)); refine blk_put (cs := #[.int .i64 t143, .int .i64 0]) ?_ 1 _ rfl; (with_reducible repeat (first | refine bR ?_ | refine bA ?_ _)); refine blk_put (cs := #[.int .i64 0, .int .i64 0]) ?_ 0 _ rfl; (with_reducible repeat (first | refine bR ?_ | refine bA ?_ _)); exact BK124.out) Tryd.underlying25 rfl (by kernel_rfl)) rfl ?_
               exact ⟨by first | rfl | (simp [errW_none, errW_some] <;> rfl) | (simp only [← hji59]; first | rfl | (simp [errW_none, errW_some] <;> rfl)) | (simp [*, errW_none, errW_some] <;> rfl), by repeat (first | (with_reducible first | exact HB.out | apply hA | apply hN | apply hD | refine below_set ?_ GE122.out | refine below_set ?_ GE123.out | refine below_set ?_ GE124.out) | exact HB.out)⟩
             · replace c69 := Bool.eq_false_iff.mpr c69
               subst c69
               have H1 : (if a0 = 9 then (if t127 = 0 then (if 0 ≤ (Go.bits .and .i64 t128 31) then ((congruence_width.f t125 t126).bind fun t145 => ((congruence_modulo.f (shl .i64 t126 (Go.bits .and .i64 t128 31)) (wrap64 (t145 + (Go.bits .and .i64 t128 31)))).bind fun bt146 => (some (bt146.1, bt146.2)))) else (none)) else ((congruence_All.f).bind fun bt148 => (some (bt148.1, bt148.2)))) else (if a0 = 13 then (congruence_Do.j3 kj59 a0 ji59 (a0 == 13) t125 t126 t127 t128) else (congruence_Do.j3 kj59 a0 ji59 (a0 == 14) t125 t126 t127 t128))) = some (r1, r2) := by rw [if_neg (show ¬ (false = true) by decide)] at H; exact H
               clear H
               have H := H1
               clear H1
               by_cases c75 : a0 = 9
               · rw [if_pos c75] at H
                 have c75b0 : (a0 == 9) = true := beq_iff_eq.mpr c75
                 have c75b1 : (a0 != 9) = false := bne_eq_false_iff_eq.mpr c75
                 clear c75
                 by_cases c76 : t127 = 0
                 · rw [if_pos c76] at H
                   have c76b0 : (t127 == 0) = true := beq_iff_eq.mpr c76
                   have c76b1 : (t127 != 0) = false := bne_eq_false_iff_eq.mpr c76
                   clear c76
                   by_cases c77 : 0 ≤ (Go.bits .and .i64 t128 31)
                   · rw [if_pos c77] at H
                     have c77b0 := eq_true c77
                     have c77b1 : decide (0 ≤ (Go.bits .and .i64 t128 31)) = true := decide_eq_true c77
                     clear c77
                     obtain ⟨ji78, hji78⟩ : ∃ j_ : Int, (shl .i64 t126 (Go.bits .and .i64 t128 31)) = j_ := ⟨_, rfl⟩
                     replace H : ((congruence_width.f t125 t126).bind fun t145 => ((congruence_modulo.f (ji78) (wrap64 (t145 + (Go.bits .and .i64 t128 31)))).bind fun bt146 => (some (bt146.1, bt146.2)))) = some (r1, r2) := by first | (rw [hji78] at H; exact H) | (simp only [hji78] at H ⊢; exact H)
                     have hji78_ : (IntKind.i64.wrap (t126 * 2 ^ min (Go.bits .and .i64 t128 31).toNat 64)) = ji78 := hji78
                     have hji78z : (Go.bits .and .i64 t128 31) ≤ 64 → (IntKind.i64.wrap (t126 * 2 ^ (Go.bits .and .i64 t128 31).toNat)) = ji78 := shl_small hji78
                     have hji78y : (wrap64 (t126 * 2 ^ min (Go.bits .and .i64 t128 31).toNat 64)) = ji78 := (i64_w _).symm.trans hji78_
                     have hji78x : (Go.bits .and .i64 t128 31) ≤ 64 → (wrap64 (t126 * 2 ^ (Go.bits .and .i64 t128 31).toNat)) = ji78 := fun h_ => (i64_w _).symm.trans (hji78z h_)
                     replace H := Option.bind_eq_some_iff.mp H
                     obtain ⟨t145, A790, H⟩ := H
                     replace H : ((congruence_modulo.f (ji78) (wrap64 (t145 + (Go.bits .and .i64 t128 31)))).bind fun bt146 => (some (bt146.1, bt146.2))) = some (r1, r2) := H
                     have A79 := aK A790
                     clear A790
                     replace H := Option.bind_eq_some_iff.mp H
                     obtain ⟨⟨t146, t147⟩, A800, H⟩ := H
                     replace H : (some (t146, t147)) = some (r1, r2) := H
                     have A80 := aK A800
                     clear A800
                     simp only [Option.some.injEq, Prod.mk.injEq] at H
                     obtain ⟨rfl, rfl⟩ := H
                     have hnb81 := NB123_122.out
                     have hnc81 := NB122_123.out
                     have hnb82 := NB123_124.out
                     have hnc82 := NB124_123.out
                     have hcz83_0 : wc.cell? ⟨gb123, 0, none⟩ = some (.int .i64 t127) := (blk_cell BK123.out 0).trans rfl
                     have hcz83_1 : wc.cell? ⟨gb123, 1, none⟩ = some (.int .i64 t128) := (blk_cell BK123.out 1).trans rfl
                     have hfz83_0 := blk_frozen BK123.out 0
                     have hfz83_1 := blk_frozen BK123.out 1
                     try go_wp2
                     have n0_ := aK (blk_drew BK122.out)
                     have n1_ := aK (blk_drew BK123.out)
                     have n2_ := aK (blk_drew BK124.out)
                     have n3_ := aK (below_drew1 HB.out)
                     clear BK122
                     clear BK123
                     clear BK124
                     clear HB
                     have BK122 := n0_
                     have BK123 := n1_
                     have BK124 := n2_
                     have HB := n3_
                     clear n0_ n1_ n2_ n3_
                     refine start_ (n := 10) (S := fun w' => w'.cell? ⟨gb122, 0, none⟩ = some (.int .i64 t125) ∧ w'.cell? ⟨gb122, 1, none⟩ = some (.int .i64 t126)) (ds := []) #[Z,Z,Z,Z,Z,Z,Z,Z,Z,Z] (by kernel_rfl) rfl rfl ⟨(blk_cell BK122.out 0).trans rfl, (blk_cell BK122.out 1).trans rfl⟩ (fun hHeld => ?_); refine with_tabW congruence_Do.tab21 congruence_Do.bits21 (fun HT_ HW_ => ?_)
                     generalize wc.drew = w84 at BK122 BK123 BK124 HB hHeld ⊢
                     refine pure_ (i := 0) (N := some 70) (v := ?_) (a' := ?_) #[Y,Z,Z,Z,Z,Z,Z,Z,Z,Z] rfl rfl (any_of HT_.out (by kernel_rfl)) (fun _ _ _ h => h) (Or.inl ⟨by rfl, ?_⟩) ?_ ?_
                     rotate_left
                     · intro w'
                       go_simp
                       with_reducible rfl
                     rotate_left
                     · simp only [Act.put, sA, sB, sC, i64_w, i32_w]
                       rfl
                     refine pure_ (i := 2) (N := some 72) (v := ?_) (a' := ?_) #[Y,Z,Y,Z,Z,Z,Z,Z,Z,Z] rfl rfl (any_of HT_.out (by kernel_rfl)) (fun _ _ _ h => h) (Or.inl ⟨by rfl, ?_⟩) ?_ ?_
                     rotate_left
                     · intro w'
                       go_simp
                       with_reducible rfl
                     rotate_left
                     · simp only [Act.put, sA, sB, sC, i64_w, i32_w]
                       rfl
                     refine pure_ (i := 6) (N := some 76) (v := ?_) (a' := ?_) #[Y,Z,Y,Z,Z,Z,Y,Z,Z,Z] rfl rfl (any_of HT_.out (by kernel_rfl)) (fun _ _ _ h => h) (Or.inl ⟨by rfl, ?_⟩) ?_ ?_
                     rotate_left
                     · intro w'
                       go_simp
                       with_reducible rfl
                     rotate_left
                     · simp only [Act.put, sA, sB, sC, i64_w, i32_w]
                       rfl
                     refine take_ (i := 1) (N := some 71) (v := ?_) (a' := ?_) #[Y,Y,Y,Z,Z,Z,Y,Z,Z,Z] rfl rfl (take_ofW HT_.out HW_.out (by kernel_rfl)) (fun _ _ _ h => h) (Or.inl ⟨by rfl, ?_⟩) hHeld ?_ ?_
                     rotate_left
                     · rintro w' ⟨s0, s1⟩
                       go_simp
                       with_reducible rfl
                     rotate_left
                     · simp only [Act.put, sA, sB, sC, i64_w, i32_w]
                       rfl
                     refine pure_ (i := 3) (N := some 73) (v := ?_) (a' := ?_) #[Y,Y,Y,Y,Z,Z,Y,Z,Z,Z] rfl rfl (any_of HT_.out (by kernel_rfl)) (fun _ _ _ h => h) (Or.inl ⟨by rfl, ?_⟩) ?_ ?_
                     rotate_left
                     · intro w'
                       go_simp
                       with_reducible rfl
                     rotate_left
                     · simp only [Act.put, sA, sB, sC, i64_w, i32_w]
                       rfl
                     refine take_ (i := 4) (N := some 74) (v := ?_) (a' := ?_) #[Y,Y,Y,Y,Y,Z,Y,Z,Z,Z] rfl rfl (take_ofW HT_.out HW_.out (by kernel_rfl)) (fun _ _ _ h => h) (Or.inl ⟨by rfl, ?_⟩) hHeld ?_ ?_
                     rotate_left
                     · rintro w' ⟨s0, s1⟩
                       go_simp
                       with_reducible rfl
                     rotate_left
                     · simp only [Act.put, sA, sB, sC, i64_w, i32_w]
                       rfl
                     refine one_ (i := 5) (N := some 75) #[Y,Y,Y,Y,Y,Y,Y,Z,Z,Z] rfl rfl (one_of HT_.out (by kernel_rfl)) (by decide) (fun K hK => ?_)
                     refine goes_ Tryd.func26 (by kernel_rfl) rfl #[.agg #[.int .i64 t125, .int .i64 t126]] (by rfl) rfl rfl (by (try simp only [mA, mB, mC]); first | done | rfl) ?_
                     with_reducible refine (congruence_width.calls t125 t126 t145 _ A79.out (Go.Proofs.YtaphfmbloappkaaDoor.TabOK.below hT.out (by repeat (first | (with_reducible first | exact HB.out | apply hA | apply hN | apply hD | refine below_set ?_ GE122.out | refine below_set ?_ GE123.out | refine below_set ?_ GE124.out) | exact HB.out)))).mono ?_
                     rintro e w85 ⟨rfl, hb⟩
                     refine ⟨_, rfl, ?_⟩
                     have n0_ := aK (blk_below (g := gb122) (o := .cells #[.int .i64 t125, .int .i64 t126] 25 (0, 0)) (by (with_reducible repeat (first | refine bR ?_ | refine bA ?_ _)); exact BK122.out) hb)
                     have n1_ := aK (blk_below (g := gb123) (o := .cells #[.int .i64 t127, .int .i64 t128] 25 (0, 0)) (by (with_reducible repeat (first | refine bR ?_ | refine bA ?_ _)); exact BK123.out) hb)
                     have n2_ := aK (blk_below (g := gb124) (o := .cells #[.int .i64 0, .int .i64 0] 25 (0, 0)) (by (with_reducible repeat (first | refine bR ?_ | refine bA ?_ _)); exact BK124.out) hb)
                     have n3_ := aK (below_step (by repeat (first | (with_reducible first | exact HB.out | apply hA | apply hN | apply hD | refine below_set ?_ GE122.out | refine below_set ?_ GE123.out | refine below_set ?_ GE124.out) | exact HB.out)) hb)
                     clear BK122
                     clear BK123
                     clear BK124
                     clear HB
                     have BK122 := n0_
                     have BK123 := n1_
                     have BK124 := n2_
                     have HB := n3_
                     clear n0_ n1_ n2_ n3_
                     (try clear hb)
                     (try clear hb2)
                     (try clear hk)
                     (try clear hi)
                     refine hK.out _ _ ⟨(blk_cell BK122.out 0).trans rfl, (blk_cell BK122.out 1).trans rfl⟩ (fun hHeld => ?_)
                     clear hK K
                     refine norm_ (a' := ?_) ?_ ?_
                     rotate_left
                     · show Act.put _ (some 75) _ = _
                       simp only [Act.put, sA, sB, sC, i64_w, i32_w]
                       rfl
                     refine pure_ (i := 7) (N := some 77) (v := ?_) (a' := ?_) #[Y,Y,Y,Y,Y,Y,Y,Y,Z,Z] rfl rfl (any_of HT_.out (by kernel_rfl)) (fun _ _ _ h => h) (Or.inl ⟨by rfl, ?_⟩) ?_ ?_
                     rotate_left
                     · intro w'
                       go_simp
                       with_reducible rfl
                     rotate_left
                     · simp only [Act.put, sA, sB, sC, i64_w, i32_w]
                       rfl
                     refine one_ (i := 8) (N := some 78) #[Y,Y,Y,Y,Y,Y,Y,Y,Y,Z] rfl rfl (one_of HT_.out (by kernel_rfl)) (by decide) (fun K hK => ?_)
                     refine goes_ Tryd.func27 (by kernel_rfl) rfl #[.int .i64 ji78, .int .i64 (wrap64 (t145 + (Go.bits .and .i64 t128 31)))] (by rfl) rfl rfl (by (try simp only [mA, mB, mC]); first | done | (simp only [hji78]; rfl) | rfl | (simp only [List.length_drop, List.length_take]; rfl)) ?_
                     with_reducible refine (congruence_modulo.calls ji78 (wrap64 (t145 + (Go.bits .and .i64 t128 31))) t146 t147 _ A80.out).mono ?_
                     rintro e w86 ⟨rfl, hb⟩
                     refine ⟨_, rfl, ?_⟩
                     have n0_ := aK (blk_below (g := gb122) (o := .cells #[.int .i64 t125, .int .i64 t126] 25 (0, 0)) (by (with_reducible repeat (first | refine bR ?_ | refine bA ?_ _)); exact BK122.out) hb)
                     have n1_ := aK (blk_below (g := gb123) (o := .cells #[.int .i64 t127, .int .i64 t128] 25 (0, 0)) (by (with_reducible repeat (first | refine bR ?_ | refine bA ?_ _)); exact BK123.out) hb)
                     have n2_ := aK (blk_below (g := gb124) (o := .cells #[.int .i64 0, .int .i64 0] 25 (0, 0)) (by (with_reducible repeat (first | refine bR ?_ | refine bA ?_ _)); exact BK124.out) hb)
                     have n3_ := aK (below_step (by repeat (first | (with_reducible first | exact HB.out | apply hA | apply hN | apply hD | refine below_set ?_ GE122.out | refine below_set ?_ GE123.out | refine below_set ?_ GE124.out) | exact HB.out)) hb)
                     clear BK122
                     clear BK123
                     clear BK124
                     clear HB
                     have BK122 := n0_
                     have BK123 := n1_
                     have BK124 := n2_
                     have HB := n3_
                     clear n0_ n1_ n2_ n3_
                     (try clear hb)
                     (try clear hb2)
                     (try clear hk)
                     (try clear hi)
                     refine hK.out _ _ ⟨(blk_cell BK122.out 0).trans rfl, (blk_cell BK122.out 1).trans rfl⟩ (fun hHeld => ?_)
                     clear hK K
                     refine norm_ (a' := ?_) ?_ ?_
                     rotate_left
                     · show Act.put _ (some 78) _ = _
                       simp only [Act.put, sA, sB, sC, i64_w, i32_w]
                       rfl
                     refine one_ (i := 9) (N := none) #[Y,Y,Y,Y,Y,Y,Y,Y,Y,Y] rfl rfl (one_of HT_.out (by kernel_rfl)) (by decide) (fun K hK => ?_)
                     have hs87 : w86.cell? ⟨gb124, 0, none⟩ = some (.int .i64 0) := (blk_cell BK124.out 0).trans rfl
                     have hfs87 := blk_frozen BK124.out 0
                     have hns87_0 := NB122_124.out
                     have hns87_1 := NB123_124.out
                     have hms87_0 := NB124_122.out
                     have hms87_1 := NB124_123.out
                     have hs88 : w86.cell? ⟨gb124, 1, none⟩ = some (.int .i64 0) := (blk_cell BK124.out 1).trans rfl
                     have hfs88 := blk_frozen BK124.out 1
                     have hns88_0 := NB122_124.out
                     have hns88_1 := NB123_124.out
                     have hms88_0 := NB124_122.out
                     have hms88_1 := NB124_123.out
                     refine skip_ (w1 := ?_) (by rfl) rfl ?_ ?_
                     rotate_left
                     · go_simp
                       rfl
                     refine hK.out _ _ ⟨((cell_far (p := ⟨gb124, _, none⟩) NB122_124.out _).trans (((cell_far (p := ⟨gb124, _, none⟩) NB122_124.out _).trans (hHeld.1)))), ((cell_far (p := ⟨gb124, _, none⟩) NB122_124.out _).trans (((cell_far (p := ⟨gb124, _, none⟩) NB122_124.out _).trans (hHeld.2))))⟩ (fun hHeld => ?_)
                     clear hK K
                     refine done_ (done_of HT_.out (by kernel_rfl)) ?_
                     try go_wp2
                     refine bodyPost_ret (results_cell_row rfl _ _ gb124 25 #[.int .i64 t146, .int .i64 t147] (0, 0) _ rfl (by (with_reducible repeat (first | refine bR ?_ | refine bA ?_ _)); refine blk_put (cs := #[.int .i64 t146, .int .i64 0]) ?_ 1 _ rfl; (with_reducible repeat (first | refine bR ?_ | refine bA ?_ _)); refine blk_put (cs := #[.int .i64 0, .int .i64 0]) ?_ 0 _ rfl; (with_reducible repeat (first | refine bR ?_ | refine bA ?_ _)); exact BK124.out) Tryd.underlying25 rfl (by kernel_rfl)) rfl ?_
                     exact ⟨by first | rfl | (simp [errW_none, errW_some] <;> rfl) | (simp only [← hji59, ← hji78]; first | rfl | (simp [errW_none, errW_some] <;> rfl)) | (simp [*, errW_none, errW_some] <;> rfl), by repeat (first | (with_reducible first | exact HB.out | apply hA | apply hN | apply hD | refine below_set ?_ GE122.out | refine below_set ?_ GE123.out | refine below_set ?_ GE124.out) | exact HB.out)⟩
                   · rw [if_neg c77] at H
                     exact absurd H (by simp)
                 · rw [if_neg c76] at H
                   have c76b0 : (t127 == 0) = false := beq_eq_false_iff_ne.mpr c76
                   have c76b1 : (t127 != 0) = true := bne_iff_ne.mpr c76
                   replace H := Option.bind_eq_some_iff.mp H
                   obtain ⟨⟨t148, t149⟩, A890, H⟩ := H
                   replace H : (some (t148, t149)) = some (r1, r2) := H
                   have A89 := aK A890
                   clear A890
                   simp only [Option.some.injEq, Prod.mk.injEq] at H
                   obtain ⟨rfl, rfl⟩ := H
                   have hnb90 := NB123_122.out
                   have hnc90 := NB122_123.out
                   have hnb91 := NB123_124.out
                   have hnc91 := NB124_123.out
                   have hcz92_0 : wc.cell? ⟨gb123, 0, none⟩ = some (.int .i64 t127) := (blk_cell BK123.out 0).trans rfl
                   have hcz92_1 : wc.cell? ⟨gb123, 1, none⟩ = some (.int .i64 t128) := (blk_cell BK123.out 1).trans rfl
                   have hfz92_0 := blk_frozen BK123.out 0
                   have hfz92_1 := blk_frozen BK123.out 1
                   go_wp2_with (first | ((with_reducible refine gate_callee (f := 19) rfl ?_); refine goesL_ (some 94) rfl rfl Tryd.func19 (by kernel_rfl) rfl #[] rfl (by (try simp only [mA, mB, mC]); first | done | rfl) ?_; (with_reducible refine (congruence_All.calls  t148 t149 _ A89.out).mono ?_); rintro e w93 ⟨rfl, hb⟩; refine ⟨_, rfl, ?_⟩; have n0_ := aK (blk_below (g := gb122) (o := .cells #[.int .i64 t125, .int .i64 t126] 25 (0, 0)) (by (with_reducible repeat (first | refine bR ?_ | refine bA ?_ _)); exact BK122.out) hb); have n1_ := aK (blk_below (g := gb123) (o := .cells #[.int .i64 t127, .int .i64 t128] 25 (0, 0)) (by (with_reducible repeat (first | refine bR ?_ | refine bA ?_ _)); exact BK123.out) hb); have n2_ := aK (blk_below (g := gb124) (o := .cells #[.int .i64 0, .int .i64 0] 25 (0, 0)) (by (with_reducible repeat (first | refine bR ?_ | refine bA ?_ _)); exact BK124.out) hb); have n3_ := aK (below_step (by repeat (first | (with_reducible first | exact HB.out | apply hA | apply hN | apply hD | refine below_set ?_ GE122.out | refine below_set ?_ GE123.out | refine below_set ?_ GE124.out) | exact HB.out)) hb); clear BK122; clear BK123; clear BK124; clear HB; have BK122 := n0_; have BK123 := n1_; have BK124 := n2_; have HB := n3_; clear n0_ n1_ n2_ n3_; (try clear hb); (try clear hb2); (try clear hk); (try clear hi); have hnb94 := NB124_122.out; have hnc94 := NB122_124.out; have hcz95_0 : w93.cell? ⟨gb124, 0, none⟩ = some (.int .i64 0) := (blk_cell BK124.out 0).trans rfl; have hcz95_1 : w93.cell? ⟨gb124, 1, none⟩ = some (.int .i64 0) := (blk_cell BK124.out 1).trans rfl; have hfz95_0 := blk_frozen BK124.out 0; have hfz95_1 := blk_frozen BK124.out 1))
                   refine bodyPost_ret (results_cell_row rfl _ _ gb124 25 #[.int .i64 t148, .int .i64 t149] (0, 0) _ rfl (by (with_reducible repeat (first | refine bR ?_ | refine bA ?_ _)); refine blk_put (cs := #[.int .i64 t148, .int .i64 0]) ?_ 1 _ rfl; (with_reducible repeat (first | refine bR ?_ | refine bA ?_ _)); refine blk_put (cs := #[.int .i64 0, .int .i64 0]) ?_ 0 _ rfl; (with_reducible repeat (first | refine bR ?_ | refine bA ?_ _)); exact BK124.out) Tryd.underlying25 rfl (by kernel_rfl)) rfl ?_
                   exact ⟨by first | rfl | (simp [errW_none, errW_some] <;> rfl) | (simp only [← hji59]; first | rfl | (simp [errW_none, errW_some] <;> rfl)) | (simp [*, errW_none, errW_some] <;> rfl), by repeat (first | (with_reducible first | exact HB.out | apply hA | apply hN | apply hD | refine below_set ?_ GE122.out | refine below_set ?_ GE123.out | refine below_set ?_ GE124.out) | exact HB.out)⟩
               · rw [if_neg c75] at H
                 have c75b0 : (a0 == 9) = false := beq_eq_false_iff_ne.mpr c75
                 have c75b1 : (a0 != 9) = true := bne_iff_ne.mpr c75
                 have HC96 := aK H
                 clear H
                 go_upto_if 79 with (fail)
                 go_cut [79] (fun v79 wc => ∃ (kq : Nat) (x79_95 : Bool), v79 = .bool x79_95 ∧ Aside0 (congruence_Do.j3 kq a0 ji59 x79_95 t125 t126 t127 t128 = some (r1, r2)) ∧ Aside0 (kq ≤ kj59) ∧ Aside0 (wc.heap[gb122]? = some (.cells #[.int .i64 t125, .int .i64 t126] 25 (0, 0))) ∧ Aside0 (wc.heap[gb123]? = some (.cells #[.int .i64 t127, .int .i64 t128] 25 (0, 0))) ∧ Aside0 (wc.heap[gb124]? = some (.cells #[.int .i64 0, .int .i64 0] 25 (0, 0))) ∧ Aside0 (Below w.heap.size w wc))
                 case first =>
                  have H := HC96.out
                  clear HC96
                  by_cases c97 : a0 = 13
                  · rw [if_pos c97] at H
                    have c97b0 : (a0 == 13) = true := beq_iff_eq.mpr c97
                    have c97b1 : (a0 != 13) = false := bne_eq_false_iff_eq.mpr c97
                    clear c97
                    (first | rw [c97b0] | (simp only [i64_w, i32_w]; rw [c97b0]) | skip)
                    have H' := aK H
                    clear H
                    go_wp2
                    go_meet
                    case rel => exact ⟨_, ((a0 == 13)), (by first | rfl | (simp; done) | (simp [*]; done)), H', ⟨by have := HJ5.out; have := HJ34.out; have := HJ59.out; first | omega | exact Nat.le_refl _⟩, ⟨by (with_reducible repeat (first | refine bR ?_ | refine bA ?_ _)); exact BK122.out⟩, ⟨by (with_reducible repeat (first | refine bR ?_ | refine bA ?_ _)); exact BK123.out⟩, ⟨by (with_reducible repeat (first | refine bR ?_ | refine bA ?_ _)); exact BK124.out⟩, ⟨by repeat (first | (with_reducible first | exact HB.out | apply hA | apply hN | apply hD | refine below_set ?_ GE122.out | refine below_set ?_ GE123.out | refine below_set ?_ GE124.out) | exact HB.out)⟩⟩
                  · rw [if_neg c97] at H
                    have c97b0 : (a0 == 13) = false := beq_eq_false_iff_ne.mpr c97
                    have c97b1 : (a0 != 13) = true := bne_iff_ne.mpr c97
                    (first | rw [c97b0] | (simp only [i64_w, i32_w]; rw [c97b0]) | skip)
                    have H' := aK H
                    clear H
                    go_wp2
                    go_meet
                    case rel => exact ⟨_, ((a0 == 14)), (by first | rfl | (simp; done) | (simp [*]; done)), H', ⟨by have := HJ5.out; have := HJ34.out; have := HJ59.out; first | omega | exact Nat.le_refl _⟩, ⟨by (with_reducible repeat (first | refine bR ?_ | refine bA ?_ _)); exact BK122.out⟩, ⟨by (with_reducible repeat (first | refine bR ?_ | refine bA ?_ _)); exact BK123.out⟩, ⟨by (with_reducible repeat (first | refine bR ?_ | refine bA ?_ _)); exact BK124.out⟩, ⟨by repeat (first | (with_reducible first | exact HB.out | apply hA | apply hN | apply hD | refine below_set ?_ GE122.out | refine below_set ?_ GE123.out | refine below_set ?_ GE124.out) | exact HB.out)⟩⟩
                 case rest =>
                  clear HC96
                  try clear c1
                  try clear c2
                  try clear p2
                  try clear c3
                  try clear c4
                  try clear c5
                  try clear c6
                  try clear p6
                  try clear c7
                  try clear c8
                  try clear c9
                  try clear c10
                  try clear c16
                  try clear c18
                  try clear c18b0
                  try clear c18b1
                  try clear c18b2
                  try clear c19
                  try clear c24
                  try clear c25
                  try clear c26
                  try clear c27
                  try clear c30
                  try clear c31
                  try clear c34
                  try clear c34b0
                  try clear c34b1
                  try clear c36
                  try clear c37
                  try clear c39
                  try clear c42
                  try clear c42b0
                  try clear c42b1
                  try clear c43
                  try clear c44
                  try clear c46
                  try clear c48
                  try clear c49
                  try clear c51
                  try clear c54
                  try clear c55
                  try clear c64
                  try clear c64b0
                  try clear c64b1
                  try clear p64
                  try clear c65
                  try clear c65b0
                  try clear c65b1
                  try clear c66
                  try clear c66b0
                  try clear c66b1
                  try clear c67
                  try clear c67b0
                  try clear c67b1
                  try clear c68
                  try clear c68b0
                  try clear c68b1
                  try clear c69
                  try clear c72
                  try clear c73
                  try clear c75
                  try clear c75b0
                  try clear c75b1
                  try clear c76
                  try clear c76b0
                  try clear c76b1
                  try clear c77
                  try clear c77b0
                  try clear c77b1
                  try clear c81
                  try clear c82
                  try clear c90
                  try clear c91
                  try clear c94
                  try clear c97
                  try clear c97b0
                  try clear c97b1
                  try clear hcz32_0
                  try clear hcz32_1
                  try clear hcz38_0
                  try clear hcz38_1
                  try clear hcz40_0
                  try clear hcz40_1
                  try clear hcz45_0
                  try clear hcz45_1
                  try clear hcz47_0
                  try clear hcz47_1
                  try clear hcz50_0
                  try clear hcz50_1
                  try clear hcz56_0
                  try clear hcz56_1
                  try clear hcz74_0
                  try clear hcz74_1
                  try clear hcz83_0
                  try clear hcz83_1
                  try clear hcz92_0
                  try clear hcz92_1
                  try clear hcz95_0
                  try clear hcz95_1
                  try clear hfz32_0
                  try clear hfz32_1
                  try clear hfz38_0
                  try clear hfz38_1
                  try clear hfz40_0
                  try clear hfz40_1
                  try clear hfz45_0
                  try clear hfz45_1
                  try clear hfz47_0
                  try clear hfz47_1
                  try clear hfz50_0
                  try clear hfz50_1
                  try clear hfz56_0
                  try clear hfz56_1
                  try clear hfz74_0
                  try clear hfz74_1
                  try clear hfz83_0
                  try clear hfz83_1
                  try clear hfz92_0
                  try clear hfz92_1
                  try clear hfz95_0
                  try clear hfz95_1
                  try clear p2
                  obtain ⟨kq, x79_95, rfl, HA, HJ95, BK122, BK123, BK124, HB⟩ := hcut
                  cases kq with
                  | zero => exact absurd HA.out (by simp [congruence_Do.j3])
                  | succ kj95 =>
                   have H := HA.out
                   clear HA
                   simp only [congruence_Do.j3] at H
                   by_cases c98 : x79_95 = true
                   · subst c98
                     have H1 : (if 0 ≤ ji59 then (if (shl .i64 1 ji59) = 0 then (none) else (if (Int.tmod (wrap64 (t126 - t128)) (shl .i64 1 ji59)) = 0 then ((congruence_All.f).bind fun bt150 => (some (bt150.1, bt150.2))) else ((congruence_Of.f (wrap64 (a0 - 13))).bind fun bt152 => (some (bt152.1, bt152.2))))) else (none)) = some (r1, r2) := by rw [if_pos rfl] at H; exact H
                     clear H
                     have H := H1
                     clear H1
                     by_cases c99 : 0 ≤ ji59
                     · rw [if_pos c99] at H
                       have c99b0 := eq_true c99
                       have c99b1 : decide (0 ≤ ji59) = true := decide_eq_true c99
                       clear c99
                       obtain ⟨ji100, hji100⟩ : ∃ j_ : Int, (shl .i64 1 ji59) = j_ := ⟨_, rfl⟩
                       replace H : (if (ji100) = 0 then (none) else (if (Int.tmod (wrap64 (t126 - t128)) (ji100)) = 0 then ((congruence_All.f).bind fun bt150 => (some (bt150.1, bt150.2))) else ((congruence_Of.f (wrap64 (a0 - 13))).bind fun bt152 => (some (bt152.1, bt152.2))))) = some (r1, r2) := by first | (rw [hji100] at H; exact H) | (simp only [hji100] at H ⊢; exact H)
                       have hji100_ : (IntKind.i64.wrap (1 * 2 ^ min ji59.toNat 64)) = ji100 := hji100
                       have hji100z : ji59 ≤ 64 → (IntKind.i64.wrap (1 * 2 ^ ji59.toNat)) = ji100 := shl_small hji100
                       have hji100u : (IntKind.i64.wrap (2 ^ min ji59.toNat 64)) = ji100 := by have h_ := hji100_; rw [Int.one_mul] at h_; exact h_
                       have hji100v : ji59 ≤ 64 → (IntKind.i64.wrap (2 ^ ji59.toNat)) = ji100 := fun hle_ => by have h_ := hji100z hle_; rw [Int.one_mul] at h_; exact h_
                       have hji100y : (wrap64 (1 * 2 ^ min ji59.toNat 64)) = ji100 := (i64_w _).symm.trans hji100_
                       have hji100x : ji59 ≤ 64 → (wrap64 (1 * 2 ^ ji59.toNat)) = ji100 := fun h_ => (i64_w _).symm.trans (hji100z h_)
                       by_cases c101 : (ji100) = 0
                       · rw [if_pos c101] at H
                         exact absurd H (by simp)
                       · rw [if_neg c101] at H
                         have c101b0 : ((ji100) == 0) = false := beq_eq_false_iff_ne.mpr c101
                         have c101b1 : ((ji100) != 0) = true := bne_iff_ne.mpr c101
                         by_cases c102 : (Int.tmod (wrap64 (t126 - t128)) (ji100)) = 0
                         · rw [if_pos c102] at H
                           have c102b0 : ((Int.tmod (wrap64 (t126 - t128)) (ji100)) == 0) = true := beq_iff_eq.mpr c102
                           have c102b1 : ((Int.tmod (wrap64 (t126 - t128)) (ji100)) != 0) = false := bne_eq_false_iff_eq.mpr c102
                           clear c102
                           replace H := Option.bind_eq_some_iff.mp H
                           obtain ⟨⟨t150, t151⟩, A1030, H⟩ := H
                           replace H : (some (t150, t151)) = some (r1, r2) := H
                           have A103 := aK A1030
                           clear A1030
                           simp only [Option.some.injEq, Prod.mk.injEq] at H
                           obtain ⟨rfl, rfl⟩ := H
                           try go_wp2
                           have n0_ := aK (blk_drew BK122.out)
                           have n1_ := aK (blk_drew BK123.out)
                           have n2_ := aK (blk_drew BK124.out)
                           have n3_ := aK (below_drew1 HB.out)
                           clear BK122
                           clear BK123
                           clear BK124
                           clear HB
                           have BK122 := n0_
                           have BK123 := n1_
                           have BK124 := n2_
                           have HB := n3_
                           clear n0_ n1_ n2_ n3_
                           refine start_ (n := 9) (S := fun w' => w'.cell? ⟨gb122, 0, none⟩ = some (.int .i64 t125) ∧ w'.cell? ⟨gb122, 1, none⟩ = some (.int .i64 t126) ∧ w'.cell? ⟨gb123, 0, none⟩ = some (.int .i64 t127) ∧ w'.cell? ⟨gb123, 1, none⟩ = some (.int .i64 t128)) (ds := []) #[Z,Z,Z,Z,Z,Z,Z,Z,Z] (by kernel_rfl) rfl rfl ⟨(blk_cell BK122.out 0).trans rfl, (blk_cell BK122.out 1).trans rfl, (blk_cell BK123.out 0).trans rfl, (blk_cell BK123.out 1).trans rfl⟩ (fun hHeld => ?_); refine with_tabW congruence_Do.tab24 congruence_Do.bits24 (fun HT_ HW_ => ?_)
                           generalize wc.drew = w104 at BK122 BK123 BK124 HB hHeld ⊢
                           refine pure_ (i := 0) (N := some 82) (v := ?_) (a' := ?_) #[Y,Z,Z,Z,Z,Z,Z,Z,Z] rfl rfl (any_of HT_.out (by kernel_rfl)) (fun _ _ _ h => h) (Or.inl ⟨by rfl, ?_⟩) ?_ ?_
                           rotate_left
                           · intro w'
                             go_simp
                             with_reducible rfl
                           rotate_left
                           · simp only [Act.put, sA, sB, sC, i64_w, i32_w]
                             rfl
                           refine pure_ (i := 2) (N := some 84) (v := ?_) (a' := ?_) #[Y,Z,Y,Z,Z,Z,Z,Z,Z] rfl rfl (any_of HT_.out (by kernel_rfl)) (fun _ _ _ h => h) (Or.inl ⟨by rfl, ?_⟩) ?_ ?_
                           rotate_left
                           · intro w'
                             go_simp
                             with_reducible rfl
                           rotate_left
                           · simp only [Act.put, sA, sB, sC, i64_w, i32_w]
                             rfl
                           refine pure_ (i := 5) (N := some 87) (v := ?_) (a' := ?_) #[Y,Z,Y,Z,Z,Y,Z,Z,Z] rfl rfl (any_of HT_.out (by kernel_rfl)) (fun _ _ _ h => h) (Or.inl ⟨by rfl, ?_⟩) ?_ ?_
                           rotate_left
                           · intro w'
                             go_simp
                             with_reducible rfl
                           rotate_left
                           · simp only [Act.put, sA, sB, sC, i64_w, i32_w]
                             rfl
                           refine pure_ (i := 6) (N := some 88) (v := ?_) (a' := ?_) #[Y,Z,Y,Z,Z,Y,Y,Z,Z] rfl rfl (any_of HT_.out (by kernel_rfl)) (fun _ _ _ h => h) (Or.inl ⟨by rfl, ?_⟩) ?_ ?_
                           rotate_left
                           · intro w'
                             go_simp
                             with_reducible rfl
                           rotate_left
                           · simp only [Act.put, sA, sB, sC, i64_w, i32_w]
                             rfl
                           refine take_ (i := 1) (N := some 83) (v := ?_) (a' := ?_) #[Y,Y,Y,Z,Z,Y,Y,Z,Z] rfl rfl (take_ofW HT_.out HW_.out (by kernel_rfl)) (fun _ _ _ h => h) (Or.inl ⟨by rfl, ?_⟩) hHeld ?_ ?_
                           rotate_left
                           · rintro w' ⟨s0, s1, s2, s3⟩
                             go_simp
                             with_reducible rfl
                           rotate_left
                           · simp only [Act.put, sA, sB, sC, i64_w, i32_w]
                             rfl
                           refine take_ (i := 3) (N := some 85) (v := ?_) (a' := ?_) #[Y,Y,Y,Y,Z,Y,Y,Z,Z] rfl rfl (take_ofW HT_.out HW_.out (by kernel_rfl)) (fun _ _ _ h => h) (Or.inl ⟨by rfl, ?_⟩) hHeld ?_ ?_
                           rotate_left
                           · rintro w' ⟨s0, s1, s2, s3⟩
                             go_simp
                             with_reducible rfl
                           rotate_left
                           · simp only [Act.put, sA, sB, sC, i64_w, i32_w]
                             rfl
                           refine pure_ (i := 4) (N := some 86) (v := ?_) (a' := ?_) #[Y,Y,Y,Y,Y,Y,Y,Z,Z] rfl rfl (any_of HT_.out (by kernel_rfl)) (fun _ _ _ h => h) (Or.inl ⟨by rfl, ?_⟩) ?_ ?_
                           rotate_left
                           · intro w'
                             go_simp
                             with_reducible rfl
                           rotate_left
                           · simp only [Act.put, sA, sB, sC, i64_w, i32_w]
                             rfl
                           refine pure_ (i := 7) (N := some 89) (v := ?_) (a' := ?_) #[Y,Y,Y,Y,Y,Y,Y,Y,Z] rfl rfl (any_of HT_.out (by kernel_rfl)) (fun _ _ _ h => h) (Or.inl ⟨by rfl, ?_⟩) ?_ ?_
                           rotate_left
                           · intro w'
                             go_simp
                             with_reducible rfl
                           rotate_left
                           · simp only [Act.put, sA, sB, sC, i64_w, i32_w]
                             rfl
                           refine pure_ (i := 8) (N := some 90) (v := ?_) (a' := ?_) #[Y,Y,Y,Y,Y,Y,Y,Y,Y] rfl rfl (any_of HT_.out (by kernel_rfl)) (fun _ _ _ h => h) (Or.inl ⟨by rfl, ?_⟩) ?_ ?_
                           rotate_left
                           · intro w'
                             go_simp
                             with_reducible rfl
                           rotate_left
                           · simp only [Act.put, sA, sB, sC, i64_w, i32_w]
                             rfl
                           refine done_ (done_of HT_.out (by kernel_rfl)) ?_
                           try go_wp2_with (first | ((with_reducible refine gate_callee (f := 19) rfl ?_); refine goesL_ (some 94) rfl rfl Tryd.func19 (by kernel_rfl) rfl #[] rfl (by (try simp only [mA, mB, mC]); first | done | rfl) ?_; (with_reducible refine (congruence_All.calls  t150 t151 _ A103.out).mono ?_); rintro e w105 ⟨rfl, hb⟩; refine ⟨_, rfl, ?_⟩; have n0_ := aK (blk_below (g := gb122) (o := .cells #[.int .i64 t125, .int .i64 t126] 25 (0, 0)) (by (with_reducible repeat (first | refine bR ?_ | refine bA ?_ _)); exact BK122.out) hb); have n1_ := aK (blk_below (g := gb123) (o := .cells #[.int .i64 t127, .int .i64 t128] 25 (0, 0)) (by (with_reducible repeat (first | refine bR ?_ | refine bA ?_ _)); exact BK123.out) hb); have n2_ := aK (blk_below (g := gb124) (o := .cells #[.int .i64 0, .int .i64 0] 25 (0, 0)) (by (with_reducible repeat (first | refine bR ?_ | refine bA ?_ _)); exact BK124.out) hb); have n3_ := aK (below_step (by repeat (first | (with_reducible first | exact HB.out | apply hA | apply hN | apply hD | refine below_set ?_ GE122.out | refine below_set ?_ GE123.out | refine below_set ?_ GE124.out) | exact HB.out)) hb); clear BK122; clear BK123; clear BK124; clear HB; have BK122 := n0_; have BK123 := n1_; have BK124 := n2_; have HB := n3_; clear n0_ n1_ n2_ n3_; (try clear hb); (try clear hb2); (try clear hk); (try clear hi); have hnb106 := NB124_122.out; have hnc106 := NB122_124.out; have hnb107 := NB124_123.out; have hnc107 := NB123_124.out; have hcz108_0 : w105.cell? ⟨gb124, 0, none⟩ = some (.int .i64 0) := (blk_cell BK124.out 0).trans rfl; have hcz108_1 : w105.cell? ⟨gb124, 1, none⟩ = some (.int .i64 0) := (blk_cell BK124.out 1).trans rfl; have hfz108_0 := blk_frozen BK124.out 0; have hfz108_1 := blk_frozen BK124.out 1))
                           refine bodyPost_ret (results_cell_row rfl _ _ gb124 25 #[.int .i64 t150, .int .i64 t151] (0, 0) _ rfl (by (with_reducible repeat (first | refine bR ?_ | refine bA ?_ _)); refine blk_put (cs := #[.int .i64 t150, .int .i64 0]) ?_ 1 _ rfl; (with_reducible repeat (first | refine bR ?_ | refine bA ?_ _)); refine blk_put (cs := #[.int .i64 0, .int .i64 0]) ?_ 0 _ rfl; (with_reducible repeat (first | refine bR ?_ | refine bA ?_ _)); exact BK124.out) Tryd.underlying25 rfl (by kernel_rfl)) rfl ?_
                           exact ⟨by first | rfl | (simp [errW_none, errW_some] <;> rfl) | (simp only [← hji59, ← hji100]; first | rfl | (simp [errW_none, errW_some] <;> rfl)) | (simp [*, errW_none, errW_some] <;> rfl), by repeat (first | (with_reducible first | exact HB.out | apply hA | apply hN | apply hD | refine below_set ?_ GE122.out | refine below_set ?_ GE123.out | refine below_set ?_ GE124.out) | exact HB.out)⟩
                         · rw [if_neg c102] at H
                           have c102b0 : ((Int.tmod (wrap64 (t126 - t128)) (ji100)) == 0) = false := beq_eq_false_iff_ne.mpr c102
                           have c102b1 : ((Int.tmod (wrap64 (t126 - t128)) (ji100)) != 0) = true := bne_iff_ne.mpr c102
                           replace H := Option.bind_eq_some_iff.mp H
                           obtain ⟨⟨t152, t153⟩, A1090, H⟩ := H
                           replace H : (some (t152, t153)) = some (r1, r2) := H
                           have A109 := aK A1090
                           clear A1090
                           simp only [Option.some.injEq, Prod.mk.injEq] at H
                           obtain ⟨rfl, rfl⟩ := H
                           try go_wp2
                           have n0_ := aK (blk_drew BK122.out)
                           have n1_ := aK (blk_drew BK123.out)
                           have n2_ := aK (blk_drew BK124.out)
                           have n3_ := aK (below_drew1 HB.out)
                           clear BK122
                           clear BK123
                           clear BK124
                           clear HB
                           have BK122 := n0_
                           have BK123 := n1_
                           have BK124 := n2_
                           have HB := n3_
                           clear n0_ n1_ n2_ n3_
                           refine start_ (n := 9) (S := fun w' => w'.cell? ⟨gb122, 0, none⟩ = some (.int .i64 t125) ∧ w'.cell? ⟨gb122, 1, none⟩ = some (.int .i64 t126) ∧ w'.cell? ⟨gb123, 0, none⟩ = some (.int .i64 t127) ∧ w'.cell? ⟨gb123, 1, none⟩ = some (.int .i64 t128)) (ds := []) #[Z,Z,Z,Z,Z,Z,Z,Z,Z] (by kernel_rfl) rfl rfl ⟨(blk_cell BK122.out 0).trans rfl, (blk_cell BK122.out 1).trans rfl, (blk_cell BK123.out 0).trans rfl, (blk_cell BK123.out 1).trans rfl⟩ (fun hHeld => ?_); refine with_tabW congruence_Do.tab24 congruence_Do.bits24 (fun HT_ HW_ => ?_)
                           generalize wc.drew = w110 at BK122 BK123 BK124 HB hHeld ⊢
                           refine pure_ (i := 0) (N := some 82) (v := ?_) (a' := ?_) #[Y,Z,Z,Z,Z,Z,Z,Z,Z] rfl rfl (any_of HT_.out (by kernel_rfl)) (fun _ _ _ h => h) (Or.inl ⟨by rfl, ?_⟩) ?_ ?_
                           rotate_left
                           · intro w'
                             go_simp
                             with_reducible rfl
                           rotate_left
                           · simp only [Act.put, sA, sB, sC, i64_w, i32_w]
                             rfl
                           refine pure_ (i := 2) (N := some 84) (v := ?_) (a' := ?_) #[Y,Z,Y,Z,Z,Z,Z,Z,Z] rfl rfl (any_of HT_.out (by kernel_rfl)) (fun _ _ _ h => h) (Or.inl ⟨by rfl, ?_⟩) ?_ ?_
                           rotate_left
                           · intro w'
                             go_simp
                             with_reducible rfl
                           rotate_left
                           · simp only [Act.put, sA, sB, sC, i64_w, i32_w]
                             rfl
                           refine pure_ (i := 5) (N := some 87) (v := ?_) (a' := ?_) #[Y,Z,Y,Z,Z,Y,Z,Z,Z] rfl rfl (any_of HT_.out (by kernel_rfl)) (fun _ _ _ h => h) (Or.inl ⟨by rfl, ?_⟩) ?_ ?_
                           rotate_left
                           · intro w'
                             go_simp
                             with_reducible rfl
                           rotate_left
                           · simp only [Act.put, sA, sB, sC, i64_w, i32_w]
                             rfl
                           refine pure_ (i := 6) (N := some 88) (v := ?_) (a' := ?_) #[Y,Z,Y,Z,Z,Y,Y,Z,Z] rfl rfl (any_of HT_.out (by kernel_rfl)) (fun _ _ _ h => h) (Or.inl ⟨by rfl, ?_⟩) ?_ ?_
                           rotate_left
                           · intro w'
                             go_simp
                             with_reducible rfl
                           rotate_left
                           · simp only [Act.put, sA, sB, sC, i64_w, i32_w]
                             rfl
                           refine take_ (i := 1) (N := some 83) (v := ?_) (a' := ?_) #[Y,Y,Y,Z,Z,Y,Y,Z,Z] rfl rfl (take_ofW HT_.out HW_.out (by kernel_rfl)) (fun _ _ _ h => h) (Or.inl ⟨by rfl, ?_⟩) hHeld ?_ ?_
                           rotate_left
                           · rintro w' ⟨s0, s1, s2, s3⟩
                             go_simp
                             with_reducible rfl
                           rotate_left
                           · simp only [Act.put, sA, sB, sC, i64_w, i32_w]
                             rfl
                           refine take_ (i := 3) (N := some 85) (v := ?_) (a' := ?_) #[Y,Y,Y,Y,Z,Y,Y,Z,Z] rfl rfl (take_ofW HT_.out HW_.out (by kernel_rfl)) (fun _ _ _ h => h) (Or.inl ⟨by rfl, ?_⟩) hHeld ?_ ?_
                           rotate_left
                           · rintro w' ⟨s0, s1, s2, s3⟩
                             go_simp
                             with_reducible rfl
                           rotate_left
                           · simp only [Act.put, sA, sB, sC, i64_w, i32_w]
                             rfl
                           refine pure_ (i := 4) (N := some 86) (v := ?_) (a' := ?_) #[Y,Y,Y,Y,Y,Y,Y,Z,Z] rfl rfl (any_of HT_.out (by kernel_rfl)) (fun _ _ _ h => h) (Or.inl ⟨by rfl, ?_⟩) ?_ ?_
                           rotate_left
                           · intro w'
                             go_simp
                             with_reducible rfl
                           rotate_left
                           · simp only [Act.put, sA, sB, sC, i64_w, i32_w]
                             rfl
                           refine pure_ (i := 7) (N := some 89) (v := ?_) (a' := ?_) #[Y,Y,Y,Y,Y,Y,Y,Y,Z] rfl rfl (any_of HT_.out (by kernel_rfl)) (fun _ _ _ h => h) (Or.inl ⟨by rfl, ?_⟩) ?_ ?_
                           rotate_left
                           · intro w'
                             go_simp
                             with_reducible rfl
                           rotate_left
                           · simp only [Act.put, sA, sB, sC, i64_w, i32_w]
                             rfl
                           refine pure_ (i := 8) (N := some 90) (v := ?_) (a' := ?_) #[Y,Y,Y,Y,Y,Y,Y,Y,Y] rfl rfl (any_of HT_.out (by kernel_rfl)) (fun _ _ _ h => h) (Or.inl ⟨by rfl, ?_⟩) ?_ ?_
                           rotate_left
                           · intro w'
                             go_simp
                             with_reducible rfl
                           rotate_left
                           · simp only [Act.put, sA, sB, sC, i64_w, i32_w]
                             rfl
                           refine done_ (done_of HT_.out (by kernel_rfl)) ?_
                           try go_wp2_with (first | ((with_reducible refine gate_callee (f := 16) rfl ?_); refine goesL_ (some 93) rfl rfl Tryd.func16 (by kernel_rfl) rfl #[.int .i64 (wrap64 (a0 - 13))] rfl (by (try simp only [mA, mB, mC]); first | done | rfl) ?_; (with_reducible refine (congruence_Of.calls (wrap64 (a0 - 13)) t152 t153 _ A109.out).mono ?_); rintro e w111 ⟨rfl, hb⟩; refine ⟨_, rfl, ?_⟩; have n0_ := aK (blk_below (g := gb122) (o := .cells #[.int .i64 t125, .int .i64 t126] 25 (0, 0)) (by (with_reducible repeat (first | refine bR ?_ | refine bA ?_ _)); exact BK122.out) hb); have n1_ := aK (blk_below (g := gb123) (o := .cells #[.int .i64 t127, .int .i64 t128] 25 (0, 0)) (by (with_reducible repeat (first | refine bR ?_ | refine bA ?_ _)); exact BK123.out) hb); have n2_ := aK (blk_below (g := gb124) (o := .cells #[.int .i64 0, .int .i64 0] 25 (0, 0)) (by (with_reducible repeat (first | refine bR ?_ | refine bA ?_ _)); exact BK124.out) hb); have n3_ := aK (below_step (by repeat (first | (with_reducible first | exact HB.out | apply hA | apply hN | apply hD | refine below_set ?_ GE122.out | refine below_set ?_ GE123.out | refine below_set ?_ GE124.out) | exact HB.out)) hb); clear BK122; clear BK123; clear BK124; clear HB; have BK122 := n0_; have BK123 := n1_; have BK124 := n2_; have HB := n3_; clear n0_ n1_ n2_ n3_; (try clear hb); (try clear hb2); (try clear hk); (try clear hi); have hnb112 := NB124_122.out; have hnc112 := NB122_124.out; have hnb113 := NB124_123.out; have hnc113 := NB123_124.out; have hcz114_0 : w111.cell? ⟨gb124, 0, none⟩ = some (.int .i64 0) := (blk_cell BK124.out 0).trans rfl; have hcz114_1 : w111.cell? ⟨gb124, 1, none⟩ = some (.int .i64 0) := (blk_cell BK124.out 1).trans rfl; have hfz114_0 := blk_frozen BK124.out 0; have hfz114_1 := blk_frozen BK124.out 1))
                           refine bodyPost_ret (results_cell_row rfl _ _ gb124 25 #[.int .i64 t152, .int .i64 t153] (0, 0) _ rfl (by (with_reducible repeat (first | refine bR ?_ | refine bA ?_ _)); refine blk_put (cs := #[.int .i64 t152, .int .i64 0]) ?_ 1 _ rfl; (with_reducible repeat (first | refine bR ?_ | refine bA ?_ _)); refine blk_put (cs := #[.int .i64 0, .int .i64 0]) ?_ 0 _ rfl; (with_reducible repeat (first | refine bR ?_ | refine bA ?_ _)); exact BK124.out) Tryd.underlying25 rfl (by kernel_rfl)) rfl ?_
                           exact ⟨by first | rfl | (simp [errW_none, errW_some] <;> rfl) | (simp only [← hji59, ← hji100]; first | rfl | (simp [errW_none, errW_some] <;> rfl)) | (simp [*, errW_none, errW_some] <;> rfl), by repeat (first | (with_reducible first | exact HB.out | apply hA | apply hN | apply hD | refine below_set ?_ GE122.out | refine below_set ?_ GE123.out | refine below_set ?_ GE124.out) | exact HB.out)⟩
                     · rw [if_neg c99] at H
                       exact absurd H (by simp)
                   · replace c98 := Bool.eq_false_iff.mpr c98
                     subst c98
                     have H1 : ((congruence_All.f).bind fun bt154 => (some (bt154.1, bt154.2))) = some (r1, r2) := by rw [if_neg (show ¬ (false = true) by decide)] at H; exact H
                     clear H
                     have H := H1
                     clear H1
                     replace H := Option.bind_eq_some_iff.mp H
                     obtain ⟨⟨t154, t155⟩, A1150, H⟩ := H
                     replace H : (some (t154, t155)) = some (r1, r2) := H
                     have A115 := aK A1150
                     clear A1150
                     simp only [Option.some.injEq, Prod.mk.injEq] at H
                     obtain ⟨rfl, rfl⟩ := H
                     go_wp2_with (first | ((with_reducible refine gate_callee (f := 19) rfl ?_); refine goesL_ (some 94) rfl rfl Tryd.func19 (by kernel_rfl) rfl #[] rfl (by (try simp only [mA, mB, mC]); first | done | rfl) ?_; (with_reducible refine (congruence_All.calls  t154 t155 _ A115.out).mono ?_); rintro e w116 ⟨rfl, hb⟩; refine ⟨_, rfl, ?_⟩; have n0_ := aK (blk_below (g := gb122) (o := .cells #[.int .i64 t125, .int .i64 t126] 25 (0, 0)) (by (with_reducible repeat (first | refine bR ?_ | refine bA ?_ _)); exact BK122.out) hb); have n1_ := aK (blk_below (g := gb123) (o := .cells #[.int .i64 t127, .int .i64 t128] 25 (0, 0)) (by (with_reducible repeat (first | refine bR ?_ | refine bA ?_ _)); exact BK123.out) hb); have n2_ := aK (blk_below (g := gb124) (o := .cells #[.int .i64 0, .int .i64 0] 25 (0, 0)) (by (with_reducible repeat (first | refine bR ?_ | refine bA ?_ _)); exact BK124.out) hb); have n3_ := aK (below_step (by repeat (first | (with_reducible first | exact HB.out | apply hA | apply hN | apply hD | refine below_set ?_ GE122.out | refine below_set ?_ GE123.out | refine below_set ?_ GE124.out) | exact HB.out)) hb); clear BK122; clear BK123; clear BK124; clear HB; have BK122 := n0_; have BK123 := n1_; have BK124 := n2_; have HB := n3_; clear n0_ n1_ n2_ n3_; (try clear hb); (try clear hb2); (try clear hk); (try clear hi); have hnb117 := NB124_122.out; have hnc117 := NB122_124.out; have hnb118 := NB124_123.out; have hnc118 := NB123_124.out; have hcz119_0 : w116.cell? ⟨gb124, 0, none⟩ = some (.int .i64 0) := (blk_cell BK124.out 0).trans rfl; have hcz119_1 : w116.cell? ⟨gb124, 1, none⟩ = some (.int .i64 0) := (blk_cell BK124.out 1).trans rfl; have hfz119_0 := blk_frozen BK124.out 0; have hfz119_1 := blk_frozen BK124.out 1))
                     refine bodyPost_ret (results_cell_row rfl _ _ gb124 25 #[.int .i64 t154, .int .i64 t155] (0, 0) _ rfl (by (with_reducible repeat (first | refine bR ?_ | refine bA ?_ _)); refine blk_put (cs := #[.int .i64 t154, .int .i64 0]) ?_ 1 _ rfl; (with_reducible repeat (first | refine bR ?_ | refine bA ?_ _)); refine blk_put (cs := #[.int .i64 0, .int .i64 0]) ?_ 0 _ rfl; (with_reducible repeat (first | refine bR ?_ | refine bA ?_ _)); exact BK124.out) Tryd.underlying25 rfl (by kernel_rfl)) rfl ?_
                     exact ⟨by first | rfl | (simp [errW_none, errW_some] <;> rfl) | (simp only [← hji59]; first | rfl | (simp [errW_none, errW_some] <;> rfl)) | (simp [*, errW_none, errW_some] <;> rfl), by repeat (first | (with_reducible first | exact HB.out | apply hA | apply hN | apply hD | refine below_set ?_ GE122.out | refine below_set ?_ GE123.out | refine below_set ?_ GE124.out) | exact HB.out)⟩
     · rw [if_neg c34] at H
       have c34b0 : (t136 == 0) = false := beq_eq_false_iff_ne.mpr c34
       have c34b1 : (t136 != 0) = true := bne_iff_ne.mpr c34
       replace H := Option.bind_eq_some_iff.mp H
       obtain ⟨⟨t137, t138⟩, A1200, H⟩ := H
       replace H : (some (t137, t138)) = some (r1, r2) := H
       have A120 := aK A1200
       clear A1200
       simp only [Option.some.injEq, Prod.mk.injEq] at H
       obtain ⟨rfl, rfl⟩ := H
       have hnb121 := NB122_123.out
       have hnc121 := NB123_122.out
       have hnb122 := NB122_124.out
       have hnc122 := NB124_122.out
       have hcz123_0 : wc.cell? ⟨gb122, 0, none⟩ = some (.int .i64 t125) := (blk_cell BK122.out 0).trans rfl
       have hcz123_1 : wc.cell? ⟨gb122, 1, none⟩ = some (.int .i64 t126) := (blk_cell BK122.out 1).trans rfl
       have hfz123_0 := blk_frozen BK122.out 0
       have hfz123_1 := blk_frozen BK122.out 1
       have hnb124 := NB123_124.out
       have hnc124 := NB124_123.out
       have hcz125_0 : wc.cell? ⟨gb123, 0, none⟩ = some (.int .i64 t127) := (blk_cell BK123.out 0).trans rfl
       have hcz125_1 : wc.cell? ⟨gb123, 1, none⟩ = some (.int .i64 t128) := (blk_cell BK123.out 1).trans rfl
       have hfz125_0 := blk_frozen BK123.out 0
       have hfz125_1 := blk_frozen BK123.out 1
       go_wp2_with (first | ((with_reducible refine gate_callee (f := 25) rfl ?_); refine goesL_ (some 30) rfl rfl Tryd.func25 (by kernel_rfl) rfl #[.int .i64 a0, .int .i64 t126, .int .i64 t128] rfl (by (try simp only [mA, mB, mC]); first | done | rfl) ?_; (with_reducible refine (word_Do.calls a0 t126 t128 t135 t136 _ A33.out).mono ?_); rintro e w126 ⟨rfl, hb⟩; refine ⟨_, rfl, ?_⟩; have n0_ := aK (blk_below (g := gb122) (o := .cells #[.int .i64 t125, .int .i64 t126] 25 (0, 0)) (by (with_reducible repeat (first | refine bR ?_ | refine bA ?_ _)); exact BK122.out) hb); have n1_ := aK (blk_below (g := gb123) (o := .cells #[.int .i64 t127, .int .i64 t128] 25 (0, 0)) (by (with_reducible repeat (first | refine bR ?_ | refine bA ?_ _)); exact BK123.out) hb); have n2_ := aK (blk_below (g := gb124) (o := .cells #[.int .i64 0, .int .i64 0] 25 (0, 0)) (by (with_reducible repeat (first | refine bR ?_ | refine bA ?_ _)); exact BK124.out) hb); have n3_ := aK (below_step (by repeat (first | (with_reducible first | exact HB.out | apply hA | apply hN | apply hD | refine below_set ?_ GE122.out | refine below_set ?_ GE123.out | refine below_set ?_ GE124.out) | exact HB.out)) hb); clear BK122; clear BK123; clear BK124; clear HB; have BK122 := n0_; have BK123 := n1_; have BK124 := n2_; have HB := n3_; clear n0_ n1_ n2_ n3_; (try clear hb); (try clear hb2); (try clear hk); (try clear hi)) | ((with_reducible refine gate_callee (f := 19) rfl ?_); refine goesL_ (some 35) rfl rfl Tryd.func19 (by kernel_rfl) rfl #[] rfl (by (try simp only [mA, mB, mC]); first | done | rfl) ?_; (with_reducible refine (congruence_All.calls  t137 t138 _ A120.out).mono ?_); rintro e w127 ⟨rfl, hb⟩; refine ⟨_, rfl, ?_⟩; have n0_ := aK (blk_below (g := gb122) (o := .cells #[.int .i64 t125, .int .i64 t126] 25 (0, 0)) (by (with_reducible repeat (first | refine bR ?_ | refine bA ?_ _)); exact BK122.out) hb); have n1_ := aK (blk_below (g := gb123) (o := .cells #[.int .i64 t127, .int .i64 t128] 25 (0, 0)) (by (with_reducible repeat (first | refine bR ?_ | refine bA ?_ _)); exact BK123.out) hb); have n2_ := aK (blk_below (g := gb124) (o := .cells #[.int .i64 0, .int .i64 0] 25 (0, 0)) (by (with_reducible repeat (first | refine bR ?_ | refine bA ?_ _)); exact BK124.out) hb); have n3_ := aK (below_step (by repeat (first | (with_reducible first | exact HB.out | apply hA | apply hN | apply hD | refine below_set ?_ GE122.out | refine below_set ?_ GE123.out | refine below_set ?_ GE124.out) | exact HB.out)) hb); clear BK122; clear BK123; clear BK124; clear HB; have BK122 := n0_; have BK123 := n1_; have BK124 := n2_; have HB := n3_; clear n0_ n1_ n2_ n3_; (try clear hb); (try clear hb2); (try clear hk); (try clear hi); have hcz128_0 : w127.cell? ⟨gb124, 0, none⟩ = some (.int .i64 0) := (blk_cell BK124.out 0).trans rfl; have hcz128_1 : w127.cell? ⟨gb124, 1, none⟩ = some (.int .i64 0) := (blk_cell BK124.out 1).trans rfl; have hfz128_0 := blk_frozen BK124.out 0; have hfz128_1 := blk_frozen BK124.out 1))
       refine bodyPost_ret (results_cell_row rfl _ _ gb124 25 #[.int .i64 t137, .int .i64 t138] (0, 0) _ rfl (by (with_reducible repeat (first | refine bR ?_ | refine bA ?_ _)); refine blk_put (cs := #[.int .i64 t137, .int .i64 0]) ?_ 1 _ rfl; (with_reducible repeat (first | refine bR ?_ | refine bA ?_ _)); refine blk_put (cs := #[.int .i64 0, .int .i64 0]) ?_ 0 _ rfl; (with_reducible repeat (first | refine bR ?_ | refine bA ?_ _)); exact BK124.out) Tryd.underlying25 rfl (by kernel_rfl)) rfl ?_
       exact ⟨by first | rfl | (simp [errW_none, errW_some] <;> rfl) | (simp [*, errW_none, errW_some] <;> rfl), by repeat (first | (with_reducible first | exact HB.out | apply hA | apply hN | apply hD | refine below_set ?_ GE122.out | refine below_set ?_ GE123.out | refine below_set ?_ GE124.out) | exact HB.out)⟩
end Go.Proofs.YtaphfmbloappkaaDoorG.PAll
