-- The walks of some functions, printed by a program for this claim.
import Derived.Test.YtaphfmbloappkaaDoorPAllx0
import Derived.Test.YtaphfmbloappkaaDoorPAllx1
import Derived.Test.YtaphfmbloappkaaDoorPAllx2
namespace Go.Proofs.YtaphfmbloappkaaDoorG.PAll
open Go.RowKit Go.Proofs.YtaphfmbloappkaaDoorW.PrintWords Go.Proofs.YtaphfmbloappkaaDoorW.PrintLast Go.Proofs.YtaphfmbloappkaaDoorW.PrintMore
attribute [local go_sem] max2_int min2_int max_two min_two max_three min_three max_four min_four   -- for this text's walks alone
set_option linter.unusedVariables false
set_option linter.unusedSimpArgs false
attribute [local go_sem high] eqA25
/-! ### congruence_Join: function 22 -/
def congruence_Join.j0 : Nat → Bool → Int → Int → Int → Int → Option (Int × Int)
 | 0, _, _, _, _, _ => none
 | k + 1, x9, x157000, x157001, x158000, x158001 => if x9 = true then (some (x158000, x158001)) else ((congruence_None.f).bind fun bt165 => (if (x158000 == bt165.1 && (x158001 == bt165.2)) = true then (some (x157000, x157001)) else ((congruence_zeros.f (wrap64 (x157001 - x158001))).bind fun t167 => ((congruence_zeros.f x157000).bind fun t168 => ((congruence_zeros.f x158000).bind fun t169 => ((congruence_modulo.f x157001 (mn (mn t167 t168) t169)).bind fun bt170 => (some (bt170.1, bt170.2))))))))
def congruence_Join.f (k : Nat) (a0_0 : Int) (a0_1 : Int) (a1_0 : Int) (a1_1 : Int) : Option (Int × Int) := (congruence_Fix.f a0_0 a0_1).bind fun bt159 => ((congruence_Fix.f a1_0 a1_1).bind fun bt161 => ((congruence_None.f).bind fun bt163 => (if (bt159.1 == bt163.1 && (bt159.2 == bt163.2)) = true then (congruence_Join.j0 k true bt159.1 bt159.2 bt161.1 bt161.2) else (congruence_Join.j0 k (bt159.1 == bt161.1 && (bt159.2 == bt161.2)) bt159.1 bt159.2 bt161.1 bt161.2))))
theorem congruence_Join.mono_l : ∀ k, (∀ y0 y1 y2 y3 y4, LeO (congruence_Join.j0 k y0 y1 y2 y3 y4) (congruence_Join.j0 (k + 1) y0 y1 y2 y3 y4))
 | 0 => fun _ _ _ _ _ r h => by simp [congruence_Join.j0] at h
 | k + 1 => by
  have ih0 := congruence_Join.mono_l k
  · intro y0 y1 y2 y3 y4
    unfold congruence_Join.j0
    repeat' first
    | (with_reducible exact ih0 _ _ _ _ _)
    | (with_reducible exact LeO.refl _)
    | (with_reducible exact LeO.none _)
    | (with_reducible refine LeO.ite ?_ ?_)
    | (with_reducible refine LeO.bind ?_ (fun _ => ?_))
    | exact ih0 _ _ _ _ _
    | exact LeO.none _
    | refine LeO.ite ?_ ?_
    | refine LeO.bind ?_ (fun _ => ?_)
theorem congruence_Join.mono : ∀ a0 a1 a2 a3 k, LeO (congruence_Join.f k a0 a1 a2 a3) (congruence_Join.f (k + 1) a0 a1 a2 a3) := by
 intro a0 a1 a2 a3 k
 have ih0 := congruence_Join.mono_l k
 unfold congruence_Join.f
 repeat' first
  | (with_reducible exact ih0 _ _ _ _ _)
  | (with_reducible exact LeO.refl _)
  | (with_reducible exact LeO.none _)
  | (with_reducible refine LeO.ite ?_ ?_)
  | (with_reducible refine LeO.bind ?_ (fun _ => ?_))
  | exact ih0 _ _ _ _ _
  | exact LeO.none _
  | refine LeO.ite ?_ ?_
  | refine LeO.bind ?_ (fun _ => ?_)
def congruence_Join.T2 : Bool × List (List Nat × List Nat) := (true, [([], []), ([], []), ([0, 1], [0, 1]), ([2, 1], [2]), ([3], [3]), ([3], [3]), ([4, 5, 3], [3, 4, 5]), ([3, 6], [3, 6]), ([7, 3], [7])])
def congruence_Join.B2 : List Nat := [0, 0, 3, 7, 15, 15, 63, 127, 255]
theorem congruence_Join.tab2 : rtab .any (opsOf Tryd.f22 2) = congruence_Join.T2 := by kernel_rfl
theorem congruence_Join.bits2 : waitsOk congruence_Join.T2.2 congruence_Join.B2 = true := by kernel_rfl
def congruence_Join.T6 : Bool × List (List Nat × List Nat) := (true, [([], []), ([0], [0]), ([], []), ([2], [2]), ([], []), ([4], [4]), ([3, 5], [3, 5]), ([6], [6]), ([], []), ([8], [8]), ([9, 7], [9]), ([], []), ([11], [11]), ([12, 10], [12]), ([7, 10, 13], [7, 10, 13]), ([1, 14, 13], [1, 14]), ([15, 15, 0, 1, 2, 3, 4, 5, 6, 7, 8, 9, 10, 11, 12, 13, 14, 15], [15])])
def congruence_Join.B6 : List Nat := [0, 1, 0, 4, 0, 16, 60, 124, 0, 256, 1020, 0, 2048, 8188, 16380, 32767, 65535]
theorem congruence_Join.tab6 : rtab .any (opsOf Tryd.f22 6) = congruence_Join.T6 := by kernel_rfl
theorem congruence_Join.bits6 : waitsOk congruence_Join.T6.2 congruence_Join.B6 = true := by kernel_rfl
set_option maxHeartbeats 80000000 in
set_option maxRecDepth 100000 in
theorem congruence_Join.calls (k : Nat) (a0_0 : Int) (a0_1 : Int) (a1_0 : Int) (a1_1 : Int) (r1 : Int) (r2 : Int) (w : World) (h : congruence_Join.f k a0_0 a0_1 a1_0 a1_1 = some (r1, r2)) (hT0 : Go.Proofs.YtaphfmbloappkaaDoor.TabOK w) :
 Calls Tryd.prog 22 #[.agg #[.int .i64 a0_0, .int .i64 a0_1], .agg #[.int .i64 a1_0, .int .i64 a1_1]] w fun e w' => e = .returned (.agg #[.int .i64 r1, .int .i64 r2]) ∧ Below w.heap.size w w' := by
 have hT := aK hT0
 clear hT0
 have hu25 := Tryd.underlying25
 have HB := aK (Below.refl w.heap.size w)
 have H : ((congruence_Fix.f a0_0 a0_1).bind fun bt159 => ((congruence_Fix.f a1_0 a1_1).bind fun bt161 => ((congruence_None.f).bind fun bt163 => (if (bt159.1 == bt163.1 && (bt159.2 == bt163.2)) = true then (congruence_Join.j0 k true bt159.1 bt159.2 bt161.1 bt161.2) else (congruence_Join.j0 k (bt159.1 == bt161.1 && (bt159.2 == bt161.2)) bt159.1 bt159.2 bt161.1 bt161.2))))) = some (r1, r2) := h
 clear h
 replace H := Option.bind_eq_some_iff.mp H
 obtain ⟨⟨t159, t160⟩, A30, H⟩ := H
 replace H : ((congruence_Fix.f a1_0 a1_1).bind fun bt161 => ((congruence_None.f).bind fun bt163 => (if (t159 == bt163.1 && (t160 == bt163.2)) = true then (congruence_Join.j0 k true t159 t160 bt161.1 bt161.2) else (congruence_Join.j0 k (t159 == bt161.1 && (t160 == bt161.2)) t159 t160 bt161.1 bt161.2)))) = some (r1, r2) := H
 have A3 := aK A30
 clear A30
 replace H := Option.bind_eq_some_iff.mp H
 obtain ⟨⟨t161, t162⟩, A40, H⟩ := H
 replace H : ((congruence_None.f).bind fun bt163 => (if (t159 == bt163.1 && (t160 == bt163.2)) = true then (congruence_Join.j0 k true t159 t160 t161 t162) else (congruence_Join.j0 k (t159 == t161 && (t160 == t162)) t159 t160 t161 t162))) = some (r1, r2) := H
 have A4 := aK A40
 clear A40
 have HC5 := aK H
 clear H
 go_enter Tryd.func22, Tryd.ntmps22
 try go_wp2_with (first | ((with_reducible refine gate_dst (N := 2) rfl ?_); refine box_event ?hg (N := 2) ?hd (cs := #[.int .i64 a0_0, .int .i64 a0_1]) (t := 25) ?hr ?_; (case hd => rfl); (case hg => rfl); (case hr => first | (go_simp; done) | (go_simp; rfl)); intro gb156 hg w6 hbox hb; have n0_ := aK (below_step (by repeat (first | (with_reducible first | exact HB.out | apply hA | apply hN | apply hD) | exact HB.out)) hb); have n1_ := aK (hbox); have n2_ := aK ((by rw [hg]; exact (below_size (by repeat (first | (with_reducible first | exact HB.out | apply hA | apply hN | apply hD) | exact HB.out))) : w.heap.size ≤ gb156)); have n3_ := aK ((by rw [hg]; exact (below_size (by repeat (first | (with_reducible first | exact HB.out | apply hA | apply hN | apply hD) | exact HB.out))) : w.heap.size ≤ gb156)); clear HB; have HB := n0_; have BK156 := n1_; have GW156 := n2_; have GE156 := n3_; clear n0_ n1_ n2_ n3_; clear hb hbox hg) | ((with_reducible refine gate_dst (N := 3) rfl ?_); refine box_event ?hg (N := 3) ?hd (cs := #[.int .i64 a1_0, .int .i64 a1_1]) (t := 25) ?hr ?_; (case hd => rfl); (case hg => rfl); (case hr => first | (go_simp; done) | (go_simp; rfl)); intro gb157 hg w7 hbox hb; have n0_ := aK (blk_below (g := gb156) (o := .cells #[.int .i64 a0_0, .int .i64 a0_1] 25 (0, 0)) (by (with_reducible repeat (first | refine bR ?_ | refine bA ?_ _)); exact BK156.out) hb); have n1_ := aK (below_step (by repeat (first | (with_reducible first | exact HB.out | apply hA | apply hN | apply hD | refine below_set ?_ GE156.out) | exact HB.out)) hb); have n2_ := aK (hbox); have n3_ := aK ((by rw [hg]; exact (below_size (by repeat (first | (with_reducible first | exact HB.out | apply hA | apply hN | apply hD | refine below_set ?_ GE156.out) | exact HB.out))) : w.heap.size ≤ gb157)); have n4_ := aK ((by rw [hg]; exact (below_size (by repeat (first | (with_reducible first | exact HB.out | apply hA | apply hN | apply hD | refine below_set ?_ GE156.out) | exact HB.out))) : w.heap.size ≤ gb157)); have n5_ := aK ((by rw [hg]; exact Nat.ne_of_lt (blk_lt (g := gb156) (o := .cells #[.int .i64 a0_0, .int .i64 a0_1] 25 (0, 0)) (by (with_reducible repeat (first | refine bR ?_ | refine bA ?_ _)); exact BK156.out)) : gb156 ≠ gb157)); have n6_ := aK ((by rw [hg]; exact Nat.ne_of_gt (blk_lt (g := gb156) (o := .cells #[.int .i64 a0_0, .int .i64 a0_1] 25 (0, 0)) (by (with_reducible repeat (first | refine bR ?_ | refine bA ?_ _)); exact BK156.out)) : gb157 ≠ gb156)); clear BK156; clear HB; have BK156 := n0_; have HB := n1_; have BK157 := n2_; have GW157 := n3_; have GE157 := n4_; have NB156_157 := n5_; have NB157_156 := n6_; clear n0_ n1_ n2_ n3_ n4_ n5_ n6_; clear hb hbox hg) | ((with_reducible refine gate_dst (N := 4) rfl ?_); refine box_event ?hg (N := 4) ?hd (cs := #[.int .i64 0, .int .i64 0]) (t := 25) ?hr ?_; (case hd => rfl); (case hg => rfl); (case hr => first | (go_simp; done) | (go_simp; rfl)); intro gb158 hg w8 hbox hb; have n0_ := aK (blk_below (g := gb156) (o := .cells #[.int .i64 a0_0, .int .i64 a0_1] 25 (0, 0)) (by (with_reducible repeat (first | refine bR ?_ | refine bA ?_ _)); exact BK156.out) hb); have n1_ := aK (blk_below (g := gb157) (o := .cells #[.int .i64 a1_0, .int .i64 a1_1] 25 (0, 0)) (by (with_reducible repeat (first | refine bR ?_ | refine bA ?_ _)); exact BK157.out) hb); have n2_ := aK (below_step (by repeat (first | (with_reducible first | exact HB.out | apply hA | apply hN | apply hD | refine below_set ?_ GE156.out | refine below_set ?_ GE157.out) | exact HB.out)) hb); have n3_ := aK (hbox); have n4_ := aK ((by rw [hg]; exact (below_size (by repeat (first | (with_reducible first | exact HB.out | apply hA | apply hN | apply hD | refine below_set ?_ GE156.out | refine below_set ?_ GE157.out) | exact HB.out))) : w.heap.size ≤ gb158)); have n5_ := aK ((by rw [hg]; exact (below_size (by repeat (first | (with_reducible first | exact HB.out | apply hA | apply hN | apply hD | refine below_set ?_ GE156.out | refine below_set ?_ GE157.out) | exact HB.out))) : w.heap.size ≤ gb158)); have n6_ := aK ((by rw [hg]; exact Nat.ne_of_lt (blk_lt (g := gb156) (o := .cells #[.int .i64 a0_0, .int .i64 a0_1] 25 (0, 0)) (by (with_reducible repeat (first | refine bR ?_ | refine bA ?_ _)); exact BK156.out)) : gb156 ≠ gb158)); have n7_ := aK ((by rw [hg]; exact Nat.ne_of_gt (blk_lt (g := gb156) (o := .cells #[.int .i64 a0_0, .int .i64 a0_1] 25 (0, 0)) (by (with_reducible repeat (first | refine bR ?_ | refine bA ?_ _)); exact BK156.out)) : gb158 ≠ gb156)); have n8_ := aK ((by rw [hg]; exact Nat.ne_of_lt (blk_lt (g := gb157) (o := .cells #[.int .i64 a1_0, .int .i64 a1_1] 25 (0, 0)) (by (with_reducible repeat (first | refine bR ?_ | refine bA ?_ _)); exact BK157.out)) : gb157 ≠ gb158)); have n9_ := aK ((by rw [hg]; exact Nat.ne_of_gt (blk_lt (g := gb157) (o := .cells #[.int .i64 a1_0, .int .i64 a1_1] 25 (0, 0)) (by (with_reducible repeat (first | refine bR ?_ | refine bA ?_ _)); exact BK157.out)) : gb158 ≠ gb157)); clear BK156; clear BK157; clear HB; have BK156 := n0_; have BK157 := n1_; have HB := n2_; have BK158 := n3_; have GW158 := n4_; have GE158 := n5_; have NB156_158 := n6_; have NB158_156 := n7_; have NB157_158 := n8_; have NB158_157 := n9_; clear n0_ n1_ n2_ n3_ n4_ n5_ n6_ n7_ n8_ n9_; clear hb hbox hg))
 have n0_ := aK (blk_drew BK156.out)
 have n1_ := aK (blk_drew BK157.out)
 have n2_ := aK (blk_drew BK158.out)
 have n3_ := aK (below_drew1 HB.out)
 clear BK156
 clear BK157
 clear BK158
 clear HB
 have BK156 := n0_
 have BK157 := n1_
 have BK158 := n2_
 have HB := n3_
 clear n0_ n1_ n2_ n3_
 refine start_ (n := 6) (S := fun w' => w'.cell? ⟨gb156, 0, none⟩ = some (.int .i64 a0_0) ∧ w'.cell? ⟨gb156, 1, none⟩ = some (.int .i64 a0_1) ∧ w'.cell? ⟨gb157, 0, none⟩ = some (.int .i64 a1_0) ∧ w'.cell? ⟨gb157, 1, none⟩ = some (.int .i64 a1_1)) (ds := [4, 5]) #[Z,Z,Z,Z,Z,Z] (by kernel_rfl) rfl rfl ⟨(blk_cell BK156.out 0).trans rfl, (blk_cell BK156.out 1).trans rfl, (blk_cell BK157.out 0).trans rfl, (blk_cell BK157.out 1).trans rfl⟩ (fun hHeld => ?_)
 generalize w8.drew = w9 at BK156 BK157 BK158 HB hHeld ⊢
 refine take_ (i := 0) (N := some 5) (v := ?_) (a' := ?_) #[Y,Z,Z,Z,Z,Z] rfl rfl (by kernel_rfl) (fun _ _ _ h => h) (Or.inl ⟨by rfl, ?_⟩) hHeld ?_ ?_
 rotate_left
 · rintro w' ⟨s0, s1, s2, s3⟩
   go_simp
   with_reducible rfl
 rotate_left
 · simp only [Act.put, sA, sB, sC, i64_w, i32_w]
   rfl
 refine take_ (i := 2) (N := some 7) (v := ?_) (a' := ?_) #[Y,Z,Y,Z,Z,Z] rfl rfl (by kernel_rfl) (fun _ _ _ h => h) (Or.inl ⟨by rfl, ?_⟩) hHeld ?_ ?_
 rotate_left
 · rintro w' ⟨s0, s1, s2, s3⟩
   go_simp
   with_reducible rfl
 rotate_left
 · simp only [Act.put, sA, sB, sC, i64_w, i32_w]
   rfl
 refine one_ (i := 1) (N := some 6) #[Y,Y,Y,Z,Z,Z] rfl rfl (by kernel_rfl) (by decide) (fun K hK => ?_)
 refine goes_ Tryd.func24 (by kernel_rfl) rfl #[.agg #[.int .i64 a0_0, .int .i64 a0_1]] (by rfl) rfl rfl (by (try simp only [mA, mB, mC]); first | done | rfl) ?_
 with_reducible refine (congruence_Fix.calls a0_0 a0_1 t159 t160 _ A3.out).mono ?_
 rintro e w10 ⟨rfl, hb⟩
 refine ⟨_, rfl, ?_⟩
 have n0_ := aK (blk_below (g := gb156) (o := .cells #[.int .i64 a0_0, .int .i64 a0_1] 25 (0, 0)) (by (with_reducible repeat (first | refine bR ?_ | refine bA ?_ _)); exact BK156.out) hb)
 have n1_ := aK (blk_below (g := gb157) (o := .cells #[.int .i64 a1_0, .int .i64 a1_1] 25 (0, 0)) (by (with_reducible repeat (first | refine bR ?_ | refine bA ?_ _)); exact BK157.out) hb)
 have n2_ := aK (blk_below (g := gb158) (o := .cells #[.int .i64 0, .int .i64 0] 25 (0, 0)) (by (with_reducible repeat (first | refine bR ?_ | refine bA ?_ _)); exact BK158.out) hb)
 have n3_ := aK (below_step (by repeat (first | (with_reducible first | exact HB.out | apply hA | apply hN | apply hD | refine below_set ?_ GE156.out | refine below_set ?_ GE157.out | refine below_set ?_ GE158.out) | exact HB.out)) hb)
 clear BK156
 clear BK157
 clear BK158
 clear HB
 have BK156 := n0_
 have BK157 := n1_
 have BK158 := n2_
 have HB := n3_
 clear n0_ n1_ n2_ n3_
 (try clear hb)
 (try clear hb2)
 (try clear hk)
 (try clear hi)
 refine hK.out _ _ ⟨(blk_cell BK156.out 0).trans rfl, (blk_cell BK156.out 1).trans rfl, (blk_cell BK157.out 0).trans rfl, (blk_cell BK157.out 1).trans rfl⟩ (fun hHeld => ?_)
 clear hK K
 refine norm_ (a' := ?_) ?_ ?_
 rotate_left
 · show Act.put _ (some 6) _ = _
   simp only [Act.put, sA, sB, sC, i64_w, i32_w]
   rfl
 refine one_ (i := 3) (N := some 8) #[Y,Y,Y,Y,Z,Z] rfl rfl (by kernel_rfl) (by decide) (fun K hK => ?_)
 refine goes_ Tryd.func24 (by kernel_rfl) rfl #[.agg #[.int .i64 a1_0, .int .i64 a1_1]] (by rfl) rfl rfl (by (try simp only [mA, mB, mC]); first | done | rfl) ?_
 with_reducible refine (congruence_Fix.calls a1_0 a1_1 t161 t162 _ A4.out).mono ?_
 rintro e w11 ⟨rfl, hb⟩
 refine ⟨_, rfl, ?_⟩
 have n0_ := aK (blk_below (g := gb156) (o := .cells #[.int .i64 a0_0, .int .i64 a0_1] 25 (0, 0)) (by (with_reducible repeat (first | refine bR ?_ | refine bA ?_ _)); exact BK156.out) hb)
 have n1_ := aK (blk_below (g := gb157) (o := .cells #[.int .i64 a1_0, .int .i64 a1_1] 25 (0, 0)) (by (with_reducible repeat (first | refine bR ?_ | refine bA ?_ _)); exact BK157.out) hb)
 have n2_ := aK (blk_below (g := gb158) (o := .cells #[.int .i64 0, .int .i64 0] 25 (0, 0)) (by (with_reducible repeat (first | refine bR ?_ | refine bA ?_ _)); exact BK158.out) hb)
 have n3_ := aK (below_step (by repeat (first | (with_reducible first | exact HB.out | apply hA | apply hN | apply hD | refine below_set ?_ GE156.out | refine below_set ?_ GE157.out | refine below_set ?_ GE158.out) | exact HB.out)) hb)
 clear BK156
 clear BK157
 clear BK158
 clear HB
 have BK156 := n0_
 have BK157 := n1_
 have BK158 := n2_
 have HB := n3_
 clear n0_ n1_ n2_ n3_
 (try clear hb)
 (try clear hb2)
 (try clear hk)
 (try clear hi)
 refine hK.out _ _ ⟨(blk_cell BK156.out 0).trans rfl, (blk_cell BK156.out 1).trans rfl, (blk_cell BK157.out 0).trans rfl, (blk_cell BK157.out 1).trans rfl⟩ (fun hHeld => ?_)
 clear hK K
 refine norm_ (a' := ?_) ?_ ?_
 rotate_left
 · show Act.put _ (some 8) _ = _
   simp only [Act.put, sA, sB, sC, i64_w, i32_w]
   rfl
 refine last_ (i := 4) (N := none) #[Y,Y,Y,Y,Y,Z] rfl rfl (by kernel_rfl) (by decide) (fun K hK => ?_)
 have hs12 : w11.cell? ⟨gb156, 0, none⟩ = some (.int .i64 a0_0) := (blk_cell BK156.out 0).trans rfl
 have hfs12 := blk_frozen BK156.out 0
 have hns12_1 := NB157_156.out
 have hns12_2 := NB158_156.out
 have hms12_1 := NB156_157.out
 have hms12_2 := NB156_158.out
 have hs13 : w11.cell? ⟨gb156, 1, none⟩ = some (.int .i64 a0_1) := (blk_cell BK156.out 1).trans rfl
 have hfs13 := blk_frozen BK156.out 1
 have hns13_1 := NB157_156.out
 have hns13_2 := NB158_156.out
 have hms13_1 := NB156_157.out
 have hms13_2 := NB156_158.out
 refine skip_ (w1 := ?_) (by rfl) rfl ?_ ?_
 rotate_left
 · go_simp
   rfl
 refine hK.out _ _ ?_
 clear hK K
 refine last_ (i := 5) (N := none) #[Y,Y,Y,Y,Y,Y] rfl rfl (by kernel_rfl) (by decide) (fun K hK => ?_)
 have hs14 : w11.cell? ⟨gb157, 0, none⟩ = some (.int .i64 a1_0) := (blk_cell BK157.out 0).trans rfl
 have hfs14 := blk_frozen BK157.out 0
 have hns14_0 := NB156_157.out
 have hns14_2 := NB158_157.out
 have hms14_0 := NB157_156.out
 have hms14_2 := NB157_158.out
 have hs15 : w11.cell? ⟨gb157, 1, none⟩ = some (.int .i64 a1_1) := (blk_cell BK157.out 1).trans rfl
 have hfs15 := blk_frozen BK157.out 1
 have hns15_0 := NB156_157.out
 have hns15_2 := NB158_157.out
 have hms15_0 := NB157_156.out
 have hms15_2 := NB157_158.out
 refine skip_ (w1 := ?_) (by rfl) rfl ?_ ?_
 rotate_left
 · go_simp
   rfl
 refine hK.out _ _ ?_
 clear hK K
 refine done_ (by kernel_rfl) ?_
 go_upto_region 2 with (fail)
 go_cut [9] (fun v9 wc => ∃ (kq : Nat) (x9_4 : Bool), v9 = .bool x9_4 ∧ Aside0 (congruence_Join.j0 kq x9_4 t159 t160 t161 t162 = some (r1, r2)) ∧ Aside0 (kq ≤ k) ∧ Aside0 (wc.heap[gb156]? = some (.cells #[.int .i64 t159, .int .i64 t160] 25 (0, 0))) ∧ Aside0 (wc.heap[gb157]? = some (.cells #[.int .i64 t161, .int .i64 t162] 25 (0, 0))) ∧ Aside0 (wc.heap[gb158]? = some (.cells #[.int .i64 0, .int .i64 0] 25 (0, 0))) ∧ Aside0 (Below w.heap.size w wc))
 case first =>
  have H := HC5.out
  clear HC5
  replace H := Option.bind_eq_some_iff.mp H
  obtain ⟨⟨t163, t164⟩, A160, H⟩ := H
  replace H : (if (t159 == t163 && (t160 == t164)) = true then (congruence_Join.j0 k true t159 t160 t161 t162) else (congruence_Join.j0 k (t159 == t161 && (t160 == t162)) t159 t160 t161 t162)) = some (r1, r2) := H
  have A16 := aK A160
  clear A160
  by_cases c17 : (t159 == t163 && (t160 == t164)) = true
  · rw [if_pos c17] at H
    have c17b0 : (t159 == t163 && (t160 == t164)) = true := c17
    (try (have c17b1 : decide (t159 = t163 && (t160 == t164)) = true := by simpa using c17))
    (try (have c17b2 : (t159 == t163 && (t160 == t164)) = true := by simpa using c17))
    clear c17
    (first | rw [c17b0] | (simp only [i64_w, i32_w]; rw [c17b0]) | skip)
    have H' := aK H
    clear H
    try go_wp2
    have n0_ : Aside0 (((((w11.setCell ⟨gb156, 0, none⟩ (.int .i64 t159)).setCell ⟨gb156, 1, none⟩ (.int .i64 t160)).setCell ⟨gb157, 0, none⟩ (.int .i64 t161)).setCell ⟨gb157, 1, none⟩ (.int .i64 t162)).heap[gb156]? = some (.cells #[.int .i64 t159, .int .i64 t160] 25 (0, 0))) := ⟨by (with_reducible repeat (first | refine bR ?_ | refine bA ?_ _)); refine blk_far ?_ NB156_157.out _; (with_reducible repeat (first | refine bR ?_ | refine bA ?_ _)); refine blk_far ?_ NB156_157.out _; (with_reducible repeat (first | refine bR ?_ | refine bA ?_ _)); refine blk_put (cs := #[.int .i64 t159, .int .i64 a0_1]) ?_ 1 _ rfl; (with_reducible repeat (first | refine bR ?_ | refine bA ?_ _)); refine blk_put (cs := #[.int .i64 a0_0, .int .i64 a0_1]) ?_ 0 _ rfl; (with_reducible repeat (first | refine bR ?_ | refine bA ?_ _)); exact BK156.out⟩
    have n1_ : Aside0 (((((w11.setCell ⟨gb156, 0, none⟩ (.int .i64 t159)).setCell ⟨gb156, 1, none⟩ (.int .i64 t160)).setCell ⟨gb157, 0, none⟩ (.int .i64 t161)).setCell ⟨gb157, 1, none⟩ (.int .i64 t162)).heap[gb157]? = some (.cells #[.int .i64 t161, .int .i64 t162] 25 (0, 0))) := ⟨by (with_reducible repeat (first | refine bR ?_ | refine bA ?_ _)); refine blk_put (cs := #[.int .i64 t161, .int .i64 a1_1]) ?_ 1 _ rfl; (with_reducible repeat (first | refine bR ?_ | refine bA ?_ _)); refine blk_put (cs := #[.int .i64 a1_0, .int .i64 a1_1]) ?_ 0 _ rfl; (with_reducible repeat (first | refine bR ?_ | refine bA ?_ _)); refine blk_far ?_ NB157_156.out _; (with_reducible repeat (first | refine bR ?_ | refine bA ?_ _)); refine blk_far ?_ NB157_156.out _; (with_reducible repeat (first | refine bR ?_ | refine bA ?_ _)); exact BK157.out⟩
    have n2_ : Aside0 (((((w11.setCell ⟨gb156, 0, none⟩ (.int .i64 t159)).setCell ⟨gb156, 1, none⟩ (.int .i64 t160)).setCell ⟨gb157, 0, none⟩ (.int .i64 t161)).setCell ⟨gb157, 1, none⟩ (.int .i64 t162)).heap[gb158]? = some (.cells #[.int .i64 0, .int .i64 0] 25 (0, 0))) := ⟨by (with_reducible repeat (first | refine bR ?_ | refine bA ?_ _)); refine blk_far ?_ NB158_157.out _; (with_reducible repeat (first | refine bR ?_ | refine bA ?_ _)); refine blk_far ?_ NB158_157.out _; (with_reducible repeat (first | refine bR ?_ | refine bA ?_ _)); refine blk_far ?_ NB158_156.out _; (with_reducible repeat (first | refine bR ?_ | refine bA ?_ _)); refine blk_far ?_ NB158_156.out _; (with_reducible repeat (first | refine bR ?_ | refine bA ?_ _)); exact BK158.out⟩
    have n3_ : Aside0 (Below w.heap.size w ((((w11.setCell ⟨gb156, 0, none⟩ (.int .i64 t159)).setCell ⟨gb156, 1, none⟩ (.int .i64 t160)).setCell ⟨gb157, 0, none⟩ (.int .i64 t161)).setCell ⟨gb157, 1, none⟩ (.int .i64 t162))) := ⟨by repeat (first | (with_reducible first | exact HB.out | apply hA | apply hN | apply hD | refine below_set ?_ GE156.out | refine below_set ?_ GE157.out | refine below_set ?_ GE158.out) | exact HB.out)⟩
    (try clear BK156)
    (try clear BK157)
    (try clear BK158)
    (try clear HB)
    generalize ((((w11.setCell ⟨gb156, 0, none⟩ (.int .i64 t159)).setCell ⟨gb156, 1, none⟩ (.int .i64 t160)).setCell ⟨gb157, 0, none⟩ (.int .i64 t161)).setCell ⟨gb157, 1, none⟩ (.int .i64 t162)) = w18 at n0_ n1_ n2_ n3_ ⊢
    have BK156 := n0_
    have BK157 := n1_
    have BK158 := n2_
    have HB := n3_
    clear n0_ n1_ n2_ n3_
    have n0_ := aK (blk_drew BK156.out)
    have n1_ := aK (blk_drew BK157.out)
    have n2_ := aK (blk_drew BK158.out)
    have n3_ := aK (below_drew1 HB.out)
    clear BK156
    clear BK157
    clear BK158
    clear HB
    have BK156 := n0_
    have BK157 := n1_
    have BK158 := n2_
    have HB := n3_
    clear n0_ n1_ n2_ n3_
    refine start_ (n := 9) (S := fun w' => w'.cell? ⟨gb156, 0, none⟩ = some (.int .i64 t159) ∧ w'.cell? ⟨gb156, 1, none⟩ = some (.int .i64 t160)) (ds := []) #[Z,Z,Z,Z,Z,Z,Z,Z,Z] (by kernel_rfl) rfl rfl ⟨(blk_cell BK156.out 0).trans rfl, (blk_cell BK156.out 1).trans rfl⟩ (fun hHeld => ?_); refine with_tabW congruence_Join.tab2 congruence_Join.bits2 (fun HT_ HW_ => ?_)
    generalize w18.drew = w19 at BK156 BK157 BK158 HB hHeld ⊢
    refine take_ (i := 0) (N := some 10) (v := ?_) (a' := ?_) #[Y,Z,Z,Z,Z,Z,Z,Z,Z] rfl rfl (take_ofW HT_.out HW_.out (by kernel_rfl)) (fun _ _ _ h => h) (Or.inl ⟨by rfl, ?_⟩) hHeld ?_ ?_
    rotate_left
    · rintro w' ⟨s0, s1⟩
      go_simp
      with_reducible rfl
    rotate_left
    · simp only [Act.put, sA, sB, sC, i64_w, i32_w]
      rfl
    refine one_ (i := 1) (N := some 11) #[Y,Y,Z,Z,Z,Z,Z,Z,Z] rfl rfl (one_of HT_.out (by kernel_rfl)) (by decide) (fun K hK => ?_)
    refine goes_ Tryd.func9 (by kernel_rfl) rfl #[] (by rfl) rfl rfl (by (try simp only [mA, mB, mC]); first | done | rfl) ?_
    with_reducible refine (congruence_None.calls  t163 t164 _ A16.out).mono ?_
    rintro e w20 ⟨rfl, hb⟩
    refine ⟨_, rfl, ?_⟩
    have n0_ := aK (blk_below (g := gb156) (o := .cells #[.int .i64 t159, .int .i64 t160] 25 (0, 0)) (by (with_reducible repeat (first | refine bR ?_ | refine bA ?_ _)); exact BK156.out) hb)
    have n1_ := aK (blk_below (g := gb157) (o := .cells #[.int .i64 t161, .int .i64 t162] 25 (0, 0)) (by (with_reducible repeat (first | refine bR ?_ | refine bA ?_ _)); exact BK157.out) hb)
    have n2_ := aK (blk_below (g := gb158) (o := .cells #[.int .i64 0, .int .i64 0] 25 (0, 0)) (by (with_reducible repeat (first | refine bR ?_ | refine bA ?_ _)); exact BK158.out) hb)
    have n3_ := aK (below_step (by repeat (first | (with_reducible first | exact HB.out | apply hA | apply hN | apply hD | refine below_set ?_ GE156.out | refine below_set ?_ GE157.out | refine below_set ?_ GE158.out) | exact HB.out)) hb)
    clear BK156
    clear BK157
    clear BK158
    clear HB
    have BK156 := n0_
    have BK157 := n1_
    have BK158 := n2_
    have HB := n3_
    clear n0_ n1_ n2_ n3_
    (try clear hb)
    (try clear hb2)
    (try clear hk)
    (try clear hi)
    refine hK.out _ _ ⟨(blk_cell BK156.out 0).trans rfl, (blk_cell BK156.out 1).trans rfl⟩ (fun hHeld => ?_)
    clear hK K
    refine norm_ (a' := ?_) ?_ ?_
    rotate_left
    · show Act.put _ (some 11) _ = _
      simp only [Act.put, sA, sB, sC, i64_w, i32_w]
      rfl
    refine pure_ (i := 2) (N := some 12) (v := ?_) (a' := ?_) #[Y,Y,Y,Z,Z,Z,Z,Z,Z] rfl rfl (any_of HT_.out (by kernel_rfl)) (fun _ _ _ h => h) (Or.inl ⟨by rfl, ?_⟩) ?_ ?_
    rotate_left
    · intro w'
      go_simp
      with_reducible rfl
    rotate_left
    · simp only [Act.put, sA, sB, sC, i64_w, i32_w]
      rfl
    refine pure_ (i := 3) (N := some 13) (v := ?_) (a' := ?_) #[Y,Y,Y,Y,Z,Z,Z,Z,Z] rfl rfl (any_of HT_.out (by kernel_rfl)) (fun _ _ _ h => h) (Or.inl ⟨by rfl, ?_⟩) ?_ ?_
    rotate_left
    · intro w'
      go_simp
      with_reducible rfl
    rotate_left
    · simp only [Act.put, sA, sB, sC, i64_w, i32_w]
      rfl
    refine pure_ (i := 4) (N := some 14) (v := undef) (a' := ?_) #[Y,Y,Y,Y,Y,Z,Z,Z,Z] rfl rfl (any_of HT_.out (by kernel_rfl)) (fun _ _ _ h => h) (Or.inr ⟨by rfl, rfl⟩) ?_ ?_
    rotate_left
    · simp only [Act.put, sA, sB, sC, i64_w, i32_w]
      rfl
    refine pure_ (i := 5) (N := some 15) (v := undef) (a' := ?_) #[Y,Y,Y,Y,Y,Y,Z,Z,Z] rfl rfl (any_of HT_.out (by kernel_rfl)) (fun _ _ _ h => h) (Or.inr ⟨by rfl, rfl⟩) ?_ ?_
    rotate_left
    · simp only [Act.put, sA, sB, sC, i64_w, i32_w]
      rfl
    refine pure_ (i := 6) (N := some 16) (v := undef) (a' := ?_) #[Y,Y,Y,Y,Y,Y,Y,Z,Z] rfl rfl (any_of HT_.out (by kernel_rfl)) (fun _ _ _ h => h) (Or.inr ⟨by rfl, rfl⟩) ?_ ?_
    rotate_left
    · simp only [Act.put, sA, sB, sC, i64_w, i32_w]
      rfl
    refine pure_ (i := 7) (N := some 17) (v := ?_) (a' := ?_) #[Y,Y,Y,Y,Y,Y,Y,Y,Z] rfl rfl (any_of HT_.out (by kernel_rfl)) (fun _ _ _ h => h) (Or.inl ⟨by rfl, ?_⟩) ?_ ?_
    rotate_left
    · intro w'
      go_simp
      with_reducible rfl
    rotate_left
    · simp only [Act.put, sA, sB, sC, i64_w, i32_w]
      rfl
    refine pure_ (i := 8) (N := some 9) (v := ?_) (a' := ?_) #[Y,Y,Y,Y,Y,Y,Y,Y,Y] rfl rfl (any_of HT_.out (by kernel_rfl)) (fun _ _ _ h => h) (Or.inl ⟨by rfl, ?_⟩) ?_ ?_
    rotate_left
    · intro w'
      go_simp
      with_reducible rfl
    rotate_left
    · simp only [Act.put, sA, sB, sC, i64_w, i32_w]
      rfl
    refine done_ (done_of HT_.out (by kernel_rfl)) ?_
    try go_wp2
    go_meet
    case rel => exact ⟨_, (true), (by first | rfl | (simp; done) | (simp [*]; done)), H', ⟨by first | omega | exact Nat.le_refl _⟩, ⟨by (with_reducible repeat (first | refine bR ?_ | refine bA ?_ _)); exact BK156.out⟩, ⟨by (with_reducible repeat (first | refine bR ?_ | refine bA ?_ _)); exact BK157.out⟩, ⟨by (with_reducible repeat (first | refine bR ?_ | refine bA ?_ _)); exact BK158.out⟩, ⟨by repeat (first | (with_reducible first | exact HB.out | apply hA | apply hN | apply hD | refine below_set ?_ GE156.out | refine below_set ?_ GE157.out | refine below_set ?_ GE158.out) | exact HB.out)⟩⟩
  · rw [if_neg c17] at H
    have c17b0 : (t159 == t163 && (t160 == t164)) = false := by simpa using c17
    (try (have c17b1 : decide (t159 = t163 && (t160 == t164)) = false := by simpa using c17))
    (try (have c17b2 : (t159 == t163 && (t160 == t164)) = false := by simpa using c17))
    (try (have c17b3 : ¬ (t159 = t163 && (t160 == t164)) := by simpa using c17))
    clear c17
    (first | rw [c17b0] | (simp only [i64_w, i32_w]; rw [c17b0]) | skip)
    have H' := aK H
    clear H
    try go_wp2
    have n0_ : Aside0 (((((w11.setCell ⟨gb156, 0, none⟩ (.int .i64 t159)).setCell ⟨gb156, 1, none⟩ (.int .i64 t160)).setCell ⟨gb157, 0, none⟩ (.int .i64 t161)).setCell ⟨gb157, 1, none⟩ (.int .i64 t162)).heap[gb156]? = some (.cells #[.int .i64 t159, .int .i64 t160] 25 (0, 0))) := ⟨by (with_reducible repeat (first | refine bR ?_ | refine bA ?_ _)); refine blk_far ?_ NB156_157.out _; (with_reducible repeat (first | refine bR ?_ | refine bA ?_ _)); refine blk_far ?_ NB156_157.out _; (with_reducible repeat (first | refine bR ?_ | refine bA ?_ _)); refine blk_put (cs := #[.int .i64 t159, .int .i64 a0_1]) ?_ 1 _ rfl; (with_reducible repeat (first | refine bR ?_ | refine bA ?_ _)); refine blk_put (cs := #[.int .i64 a0_0, .int .i64 a0_1]) ?_ 0 _ rfl; (with_reducible repeat (first | refine bR ?_ | refine bA ?_ _)); exact BK156.out⟩
    have n1_ : Aside0 (((((w11.setCell ⟨gb156, 0, none⟩ (.int .i64 t159)).setCell ⟨gb156, 1, none⟩ (.int .i64 t160)).setCell ⟨gb157, 0, none⟩ (.int .i64 t161)).setCell ⟨gb157, 1, none⟩ (.int .i64 t162)).heap[gb157]? = some (.cells #[.int .i64 t161, .int .i64 t162] 25 (0, 0))) := ⟨by (with_reducible repeat (first | refine bR ?_ | refine bA ?_ _)); refine blk_put (cs := #[.int .i64 t161, .int .i64 a1_1]) ?_ 1 _ rfl; (with_reducible repeat (first | refine bR ?_ | refine bA ?_ _)); refine blk_put (cs := #[.int .i64 a1_0, .int .i64 a1_1]) ?_ 0 _ rfl; (with_reducible repeat (first | refine bR ?_ | refine bA ?_ _)); refine blk_far ?_ NB157_156.out _; (with_reducible repeat (first | refine bR ?_ | refine bA ?_ _)); refine blk_far ?_ NB157_156.out _; (with_reducible repeat (first | refine bR ?_ | refine bA ?_ _)); exact BK157.out⟩
    have n2_ : Aside0 (((((w11.setCell ⟨gb156, 0, none⟩ (.int .i64 t159)).setCell ⟨gb156, 1, none⟩ (.int .i64 t160)).setCell ⟨gb157, 0, none⟩ (.int .i64 t161)).setCell ⟨gb157, 1, none⟩ (.int .i64 t162)).heap[gb158]? = some (.cells #[.int .i64 0, .int .i64 0] 25 (0, 0))) := ⟨by (with_reducible repeat (first | refine bR ?_ | refine bA ?_ _)); refine blk_far ?_ NB158_157.out _; (with_reducible repeat (first | refine bR ?_ | refine bA ?_ _)); refine blk_far ?_ NB158_157.out _; (with_reducible repeat (first | refine bR ?_ | refine bA ?_ _)); refine blk_far ?_ NB158_156.out _; (with_reducible repeat (first | refine bR ?_ | refine bA ?_ _)); refine blk_far ?_ NB158_156.out _; (with_reducible repeat (first | refine bR ?_ | refine bA ?_ _)); exact BK158.out⟩
    have n3_ : Aside0 (Below w.heap.size w ((((w11.setCell ⟨gb156, 0, none⟩ (.int .i64 t159)).setCell ⟨gb156, 1, none⟩ (.int .i64 t160)).setCell ⟨gb157, 0, none⟩ (.int .i64 t161)).setCell ⟨gb157, 1, none⟩ (.int .i64 t162))) := ⟨by repeat (first | (with_reducible first | exact HB.out | apply hA | apply hN | apply hD | refine below_set ?_ GE156.out | refine below_set ?_ GE157.out | refine below_set ?_ GE158.out) | exact HB.out)⟩
    (try clear BK156)
    (try clear BK157)
    (try clear BK158)
    (try clear HB)
    generalize ((((w11.setCell ⟨gb156, 0, none⟩ (.int .i64 t159)).setCell ⟨gb156, 1, none⟩ (.int .i64 t160)).setCell ⟨gb157, 0, none⟩ (.int .i64 t161)).setCell ⟨gb157, 1, none⟩ (.int .i64 t162)) = w21 at n0_ n1_ n2_ n3_ ⊢
    have BK156 := n0_
    have BK157 := n1_
    have BK158 := n2_
    have HB := n3_
    clear n0_ n1_ n2_ n3_
    have n0_ := aK (blk_drew BK156.out)
    have n1_ := aK (blk_drew BK157.out)
    have n2_ := aK (blk_drew BK158.out)
    have n3_ := aK (below_drew1 HB.out)
    clear BK156
    clear BK157
    clear BK158
    clear HB
    have BK156 := n0_
    have BK157 := n1_
    have BK158 := n2_
    have HB := n3_
    clear n0_ n1_ n2_ n3_
    refine start_ (n := 9) (S := fun w' => w'.cell? ⟨gb156, 0, none⟩ = some (.int .i64 t159) ∧ w'.cell? ⟨gb156, 1, none⟩ = some (.int .i64 t160) ∧ w'.cell? ⟨gb157, 0, none⟩ = some (.int .i64 t161) ∧ w'.cell? ⟨gb157, 1, none⟩ = some (.int .i64 t162)) (ds := []) #[Z,Z,Z,Z,Z,Z,Z,Z,Z] (by kernel_rfl) rfl rfl ⟨(blk_cell BK156.out 0).trans rfl, (blk_cell BK156.out 1).trans rfl, (blk_cell BK157.out 0).trans rfl, (blk_cell BK157.out 1).trans rfl⟩ (fun hHeld => ?_); refine with_tabW congruence_Join.tab2 congruence_Join.bits2 (fun HT_ HW_ => ?_)
    generalize w21.drew = w22 at BK156 BK157 BK158 HB hHeld ⊢
    refine take_ (i := 0) (N := some 10) (v := ?_) (a' := ?_) #[Y,Z,Z,Z,Z,Z,Z,Z,Z] rfl rfl (take_ofW HT_.out HW_.out (by kernel_rfl)) (fun _ _ _ h => h) (Or.inl ⟨by rfl, ?_⟩) hHeld ?_ ?_
    rotate_left
    · rintro w' ⟨s0, s1, s2, s3⟩
      go_simp
      with_reducible rfl
    rotate_left
    · simp only [Act.put, sA, sB, sC, i64_w, i32_w]
      rfl
    refine one_ (i := 1) (N := some 11) #[Y,Y,Z,Z,Z,Z,Z,Z,Z] rfl rfl (one_of HT_.out (by kernel_rfl)) (by decide) (fun K hK => ?_)
    refine goes_ Tryd.func9 (by kernel_rfl) rfl #[] (by rfl) rfl rfl (by (try simp only [mA, mB, mC]); first | done | rfl) ?_
    with_reducible refine (congruence_None.calls  t163 t164 _ A16.out).mono ?_
    rintro e w23 ⟨rfl, hb⟩
    refine ⟨_, rfl, ?_⟩
    have n0_ := aK (blk_below (g := gb156) (o := .cells #[.int .i64 t159, .int .i64 t160] 25 (0, 0)) (by (with_reducible repeat (first | refine bR ?_ | refine bA ?_ _)); exact BK156.out) hb)
    have n1_ := aK (blk_below (g := gb157) (o := .cells #[.int .i64 t161, .int .i64 t162] 25 (0, 0)) (by (with_reducible repeat (first | refine bR ?_ | refine bA ?_ _)); exact BK157.out) hb)
    have n2_ := aK (blk_below (g := gb158) (o := .cells #[.int .i64 0, .int .i64 0] 25 (0, 0)) (by (with_reducible repeat (first | refine bR ?_ | refine bA ?_ _)); exact BK158.out) hb)
    have n3_ := aK (below_step (by repeat (first | (with_reducible first | exact HB.out | apply hA | apply hN | apply hD | refine below_set ?_ GE156.out | refine below_set ?_ GE157.out | refine below_set ?_ GE158.out) | exact HB.out)) hb)
    clear BK156
    clear BK157
    clear BK158
    clear HB
    have BK156 := n0_
    have BK157 := n1_
    have BK158 := n2_
    have HB := n3_
    clear n0_ n1_ n2_ n3_
    (try clear hb)
    (try clear hb2)
    (try clear hk)
    (try clear hi)
    refine hK.out _ _ ⟨(blk_cell BK156.out 0).trans rfl, (blk_cell BK156.out 1).trans rfl, (blk_cell BK157.out 0).trans rfl, (blk_cell BK157.out 1).trans rfl⟩ (fun hHeld => ?_)
    clear hK K
    refine norm_ (a' := ?_) ?_ ?_
    rotate_left
    · show Act.put _ (some 11) _ = _
      simp only [Act.put, sA, sB, sC, i64_w, i32_w]
      rfl
    refine pure_ (i := 2) (N := some 12) (v := ?_) (a' := ?_) #[Y,Y,Y,Z,Z,Z,Z,Z,Z] rfl rfl (any_of HT_.out (by kernel_rfl)) (fun _ _ _ h => h) (Or.inl ⟨by rfl, ?_⟩) ?_ ?_
    rotate_left
    · intro w'
      go_simp
      with_reducible rfl
    rotate_left
    · simp only [Act.put, sA, sB, sC, i64_w, i32_w]
      rfl
    refine pure_ (i := 3) (N := some 13) (v := ?_) (a' := ?_) #[Y,Y,Y,Y,Z,Z,Z,Z,Z] rfl rfl (any_of HT_.out (by kernel_rfl)) (fun _ _ _ h => h) (Or.inl ⟨by rfl, ?_⟩) ?_ ?_
    rotate_left
    · intro w'
      go_simp
      with_reducible rfl
    rotate_left
    · simp only [Act.put, sA, sB, sC, i64_w, i32_w]
      rfl
    refine take_ (i := 4) (N := some 14) (v := ?_) (a' := ?_) #[Y,Y,Y,Y,Y,Z,Z,Z,Z] rfl rfl (take_ofW HT_.out HW_.out (by kernel_rfl)) (fun _ _ _ h => h) (Or.inl ⟨by rfl, ?_⟩) hHeld ?_ ?_
    rotate_left
    · rintro w' ⟨s0, s1, s2, s3⟩
      go_simp
      with_reducible rfl
    rotate_left
    · simp only [Act.put, sA, sB, sC, i64_w, i32_w]
      rfl
    refine take_ (i := 5) (N := some 15) (v := ?_) (a' := ?_) #[Y,Y,Y,Y,Y,Y,Z,Z,Z] rfl rfl (take_ofW HT_.out HW_.out (by kernel_rfl)) (fun _ _ _ h => h) (Or.inl ⟨by rfl, ?_⟩) hHeld ?_ ?_
    rotate_left
    · rintro w' ⟨s0, s1, s2, s3⟩
      go_simp
      with_reducible rfl
    rotate_left
    · simp only [Act.put, sA, sB, sC, i64_w, i32_w]
      rfl
    refine pure_ (i := 6) (N := some 16) (v := ?_) (a' := ?_) #[Y,Y,Y,Y,Y,Y,Y,Z,Z] rfl rfl (any_of HT_.out (by kernel_rfl)) (fun _ _ _ h => h) (Or.inl ⟨by rfl, ?_⟩) ?_ ?_
    rotate_left
    · intro w'
      go_simp
      with_reducible rfl
    rotate_left
    · simp only [Act.put, sA, sB, sC, i64_w, i32_w]
      rfl
    refine pure_ (i := 7) (N := some 17) (v := ?_) (a' := ?_) #[Y,Y,Y,Y,Y,Y,Y,Y,Z] rfl rfl (any_of HT_.out (by kernel_rfl)) (fun _ _ _ h => h) (Or.inl ⟨by rfl, ?_⟩) ?_ ?_
    rotate_left
    · intro w'
      go_simp
      with_reducible rfl
    rotate_left
    · simp only [Act.put, sA, sB, sC, i64_w, i32_w]
      rfl
    refine pure_ (i := 8) (N := some 9) (v := ?_) (a' := ?_) #[Y,Y,Y,Y,Y,Y,Y,Y,Y] rfl rfl (any_of HT_.out (by kernel_rfl)) (fun _ _ _ h => h) (Or.inl ⟨by rfl, ?_⟩) ?_ ?_
    rotate_left
    · intro w'
      go_simp
      with_reducible rfl
    rotate_left
    · simp only [Act.put, sA, sB, sC, i64_w, i32_w]
      rfl
    refine done_ (done_of HT_.out (by kernel_rfl)) ?_
    try go_wp2
    go_meet
    case rel => exact ⟨_, ((t159 == t161 && (t160 == t162))), (by first | rfl | (simp; done) | (simp [*]; done)), H', ⟨by first | omega | exact Nat.le_refl _⟩, ⟨by (with_reducible repeat (first | refine bR ?_ | refine bA ?_ _)); exact BK156.out⟩, ⟨by (with_reducible repeat (first | refine bR ?_ | refine bA ?_ _)); exact BK157.out⟩, ⟨by (with_reducible repeat (first | refine bR ?_ | refine bA ?_ _)); exact BK158.out⟩, ⟨by repeat (first | (with_reducible first | exact HB.out | apply hA | apply hN | apply hD | refine below_set ?_ GE156.out | refine below_set ?_ GE157.out | refine below_set ?_ GE158.out) | exact HB.out)⟩⟩
 case rest =>
  clear HC5
  try clear c1
  try clear c2
  try clear p2
  try clear c9
  try clear c17
  try clear c17b0
  try clear c17b1
  try clear c17b2
  try clear c22
  obtain ⟨kq, x9_4, rfl, HA, HJ4, BK156, BK157, BK158, HB⟩ := hcut
  cases kq with
  | zero => exact absurd HA.out (by simp [congruence_Join.j0])
  | succ kj4 =>
   have H := HA.out
   clear HA
   simp only [congruence_Join.j0] at H
   by_cases c24 : x9_4 = true
   · subst c24
     have H1 : (some (t161, t162)) = some (r1, r2) := by rw [if_pos rfl] at H; exact H
     clear H
     have H := H1
     clear H1
     simp only [Option.some.injEq, Prod.mk.injEq] at H
     obtain ⟨rfl, rfl⟩ := H
     have hnb25 := NB157_156.out
     have hnc25 := NB156_157.out
     have hnb26 := NB157_158.out
     have hnc26 := NB158_157.out
     have hcz27_0 : wc.cell? ⟨gb157, 0, none⟩ = some (.int .i64 t161) := (blk_cell BK157.out 0).trans rfl
     have hcz27_1 : wc.cell? ⟨gb157, 1, none⟩ = some (.int .i64 t162) := (blk_cell BK157.out 1).trans rfl
     have hfz27_0 := blk_frozen BK157.out 0
     have hfz27_1 := blk_frozen BK157.out 1
     have hnb28 := NB158_156.out
     have hnc28 := NB156_158.out
     have hcz29_0 : wc.cell? ⟨gb158, 0, none⟩ = some (.int .i64 0) := (blk_cell BK158.out 0).trans rfl
     have hcz29_1 : wc.cell? ⟨gb158, 1, none⟩ = some (.int .i64 0) := (blk_cell BK158.out 1).trans rfl
     have hfz29_0 := blk_frozen BK158.out 0
     have hfz29_1 := blk_frozen BK158.out 1
     go_wp2
     refine bodyPost_ret (results_cell_row rfl _ _ gb158 25 #[.int .i64 t161, .int .i64 t162] (0, 0) _ rfl (by (with_reducible repeat (first | refine bR ?_ | refine bA ?_ _)); refine blk_put (cs := #[.int .i64 t161, .int .i64 0]) ?_ 1 _ rfl; (with_reducible repeat (first | refine bR ?_ | refine bA ?_ _)); refine blk_put (cs := #[.int .i64 0, .int .i64 0]) ?_ 0 _ rfl; (with_reducible repeat (first | refine bR ?_ | refine bA ?_ _)); exact BK158.out) Tryd.underlying25 rfl (by kernel_rfl)) rfl ?_
     exact ⟨by first | rfl | (simp [errW_none, errW_some] <;> rfl) | (simp [*, errW_none, errW_some] <;> rfl), by repeat (first | (with_reducible first | exact HB.out | apply hA | apply hN | apply hD | refine below_set ?_ GE156.out | refine below_set ?_ GE157.out | refine below_set ?_ GE158.out) | exact HB.out)⟩
   · replace c24 := Bool.eq_false_iff.mpr c24
     subst c24
     have H1 : ((congruence_None.f).bind fun bt165 => (if (t161 == bt165.1 && (t162 == bt165.2)) = true then (some (t159, t160)) else ((congruence_zeros.f (wrap64 (t160 - t162))).bind fun t167 => ((congruence_zeros.f t159).bind fun t168 => ((congruence_zeros.f t161).bind fun t169 => ((congruence_modulo.f t160 (mn (mn t167 t168) t169)).bind fun bt170 => (some (bt170.1, bt170.2)))))))) = some (r1, r2) := by rw [if_neg (show ¬ (false = true) by decide)] at H; exact H
     clear H
     have H := H1
     clear H1
     replace H := Option.bind_eq_some_iff.mp H
     obtain ⟨⟨t165, t166⟩, A300, H⟩ := H
     replace H : (if (t161 == t165 && (t162 == t166)) = true then (some (t159, t160)) else ((congruence_zeros.f (wrap64 (t160 - t162))).bind fun t167 => ((congruence_zeros.f t159).bind fun t168 => ((congruence_zeros.f t161).bind fun t169 => ((congruence_modulo.f t160 (mn (mn t167 t168) t169)).bind fun bt170 => (some (bt170.1, bt170.2))))))) = some (r1, r2) := H
     have A30 := aK A300
     clear A300
     by_cases c31 : (t161 == t165 && (t162 == t166)) = true
     · rw [if_pos c31] at H
       have c31b0 : (t161 == t165 && (t162 == t166)) = true := c31
       (try (have c31b1 : decide (t161 = t165 && (t162 == t166)) = true := by simpa using c31))
       (try (have c31b2 : (t161 == t165 && (t162 == t166)) = true := by simpa using c31))
       clear c31
       simp only [Option.some.injEq, Prod.mk.injEq] at H
       obtain ⟨rfl, rfl⟩ := H
       try go_wp2
       have n0_ := aK (blk_drew BK156.out)
       have n1_ := aK (blk_drew BK157.out)
       have n2_ := aK (blk_drew BK158.out)
       have n3_ := aK (below_drew1 HB.out)
       clear BK156
       clear BK157
       clear BK158
       clear HB
       have BK156 := n0_
       have BK157 := n1_
       have BK158 := n2_
       have HB := n3_
       clear n0_ n1_ n2_ n3_
       refine start_ (n := 4) (S := fun w' => w'.cell? ⟨gb157, 0, none⟩ = some (.int .i64 t161) ∧ w'.cell? ⟨gb157, 1, none⟩ = some (.int .i64 t162)) (ds := []) #[Z,Z,Z,Z] (by kernel_rfl) rfl rfl ⟨(blk_cell BK157.out 0).trans rfl, (blk_cell BK157.out 1).trans rfl⟩ (fun hHeld => ?_)
       generalize wc.drew = w32 at BK156 BK157 BK158 HB hHeld ⊢
       refine take_ (i := 0) (N := some 20) (v := ?_) (a' := ?_) #[Y,Z,Z,Z] rfl rfl (by kernel_rfl) (fun _ _ _ h => h) (Or.inl ⟨by rfl, ?_⟩) hHeld ?_ ?_
       rotate_left
       · rintro w' ⟨s0, s1⟩
         go_simp
         with_reducible rfl
       rotate_left
       · simp only [Act.put, sA, sB, sC, i64_w, i32_w]
         rfl
       refine one_ (i := 1) (N := some 21) #[Y,Y,Z,Z] rfl rfl (by kernel_rfl) (by decide) (fun K hK => ?_)
       refine goes_ Tryd.func9 (by kernel_rfl) rfl #[] (by rfl) rfl rfl (by (try simp only [mA, mB, mC]); first | done | rfl) ?_
       with_reducible refine (congruence_None.calls  t165 t166 _ A30.out).mono ?_
       rintro e w33 ⟨rfl, hb⟩
       refine ⟨_, rfl, ?_⟩
       have n0_ := aK (blk_below (g := gb156) (o := .cells #[.int .i64 t159, .int .i64 t160] 25 (0, 0)) (by (with_reducible repeat (first | refine bR ?_ | refine bA ?_ _)); exact BK156.out) hb)
       have n1_ := aK (blk_below (g := gb157) (o := .cells #[.int .i64 t161, .int .i64 t162] 25 (0, 0)) (by (with_reducible repeat (first | refine bR ?_ | refine bA ?_ _)); exact BK157.out) hb)
       have n2_ := aK (blk_below (g := gb158) (o := .cells #[.int .i64 0, .int .i64 0] 25 (0, 0)) (by (with_reducible repeat (first | refine bR ?_ | refine bA ?_ _)); exact BK158.out) hb)
       have n3_ := aK (below_step (by repeat (first | (with_reducible first | exact HB.out | apply hA | apply hN | apply hD | refine below_set ?_ GE156.out | refine below_set ?_ GE157.out | refine below_set ?_ GE158.out) | exact HB.out)) hb)
       clear BK156
       clear BK157
       clear BK158
       clear HB
       have BK156 := n0_
       have BK157 := n1_
       have BK158 := n2_
       have HB := n3_
       clear n0_ n1_ n2_ n3_
       (try clear hb)
       (try clear hb2)
       (try clear hk)
       (try clear hi)
       refine hK.out _ _ ⟨(blk_cell BK157.out 0).trans rfl, (blk_cell BK157.out 1).trans rfl⟩ (fun hHeld => ?_)
       clear hK K
       refine norm_ (a' := ?_) ?_ ?_
       rotate_left
       · show Act.put _ (some 21) _ = _
         simp only [Act.put, sA, sB, sC, i64_w, i32_w]
         rfl
       refine pure_ (i := 2) (N := some 22) (v := ?_) (a' := ?_) #[Y,Y,Y,Z] rfl rfl (by kernel_rfl) (fun _ _ _ h => h) (Or.inl ⟨by rfl, ?_⟩) ?_ ?_
       rotate_left
       · intro w'
         go_simp
         with_reducible rfl
       rotate_left
       · simp only [Act.put, sA, sB, sC, i64_w, i32_w]
         rfl
       refine pure_ (i := 3) (N := some 19) (v := ?_) (a' := ?_) #[Y,Y,Y,Y] rfl rfl (by kernel_rfl) (fun _ _ _ h => h) (Or.inl ⟨by rfl, ?_⟩) ?_ ?_
       rotate_left
       · intro w'
         go_simp
         with_reducible rfl
       rotate_left
       · simp only [Act.put, sA, sB, sC, i64_w, i32_w]
         rfl
       refine done_ (by kernel_rfl) ?_
       have hnb34 := NB156_157.out
       have hnc34 := NB157_156.out
       have hnb35 := NB156_158.out
       have hnc35 := NB158_156.out
       have hcz36_0 : w33.cell? ⟨gb156, 0, none⟩ = some (.int .i64 t159) := (blk_cell BK156.out 0).trans rfl
       have hcz36_1 : w33.cell? ⟨gb156, 1, none⟩ = some (.int .i64 t160) := (blk_cell BK156.out 1).trans rfl
       have hfz36_0 := blk_frozen BK156.out 0
       have hfz36_1 := blk_frozen BK156.out 1
       have hnb37 := NB158_157.out
       have hnc37 := NB157_158.out
       have hcz38_0 : w33.cell? ⟨gb158, 0, none⟩ = some (.int .i64 0) := (blk_cell BK158.out 0).trans rfl
       have hcz38_1 : w33.cell? ⟨gb158, 1, none⟩ = some (.int .i64 0) := (blk_cell BK158.out 1).trans rfl
       have hfz38_0 := blk_frozen BK158.out 0
       have hfz38_1 := blk_frozen BK158.out 1
       try go_wp2
       refine bodyPost_ret (results_cell_row rfl _ _ gb158 25 #[.int .i64 t159, .int .i64 t160] (0, 0) _ rfl (by (with_reducible repeat (first | refine bR ?_ | refine bA ?_ _)); refine blk_put (cs := #[.int .i64 t159, .int .i64 0]) ?_ 1 _ rfl; (with_reducible repeat (first | refine bR ?_ | refine bA ?_ _)); refine blk_put (cs := #[.int .i64 0, .int .i64 0]) ?_ 0 _ rfl; (with_reducible repeat (first | refine bR ?_ | refine bA ?_ _)); exact BK158.out) Tryd.underlying25 rfl (by kernel_rfl)) rfl ?_
       exact ⟨by first | rfl | (simp [errW_none, errW_some] <;> rfl) | (simp [*, errW_none, errW_some] <;> rfl), by repeat (first | (with_reducible first | exact HB.out | apply hA | apply hN | apply hD | refine below_set ?_ GE156.out | refine below_set ?_ GE157.out | refine below_set ?_ GE158.out) | exact HB.out)⟩
     · rw [if_neg c31] at H
       have c31b0 : (t161 == t165 && (t162 == t166)) = false := by simpa using c31
       (try (have c31b1 : decide (t161 = t165 && (t162 == t166)) = false := by simpa using c31))
       (try (have c31b2 : (t161 == t165 && (t162 == t166)) = false := by simpa using c31))
       (try (have c31b3 : ¬ (t161 = t165 && (t162 == t166)) := by simpa using c31))
       clear c31
       replace H := Option.bind_eq_some_iff.mp H
       obtain ⟨t167, A390, H⟩ := H
       replace H : ((congruence_zeros.f t159).bind fun t168 => ((congruence_zeros.f t161).bind fun t169 => ((congruence_modulo.f t160 (mn (mn t167 t168) t169)).bind fun bt170 => (some (bt170.1, bt170.2))))) = some (r1, r2) := H
       have A39 := aK A390
       clear A390
       replace H := Option.bind_eq_some_iff.mp H
       obtain ⟨t168, A400, H⟩ := H
       replace H : ((congruence_zeros.f t161).bind fun t169 => ((congruence_modulo.f t160 (mn (mn t167 t168) t169)).bind fun bt170 => (some (bt170.1, bt170.2)))) = some (r1, r2) := H
       have A40 := aK A400
       clear A400
       replace H := Option.bind_eq_some_iff.mp H
       obtain ⟨t169, A410, H⟩ := H
       replace H : ((congruence_modulo.f t160 (mn (mn t167 t168) t169)).bind fun bt170 => (some (bt170.1, bt170.2))) = some (r1, r2) := H
       have A41 := aK A410
       clear A410
       obtain ⟨ji42, hji42⟩ : ∃ j_ : Int, (mn t167 t168) = j_ := ⟨_, rfl⟩
       replace H : ((congruence_modulo.f t160 (mn (ji42) t169)).bind fun bt170 => (some (bt170.1, bt170.2))) = some (r1, r2) := by first | (rw [hji42] at H; exact H) | (simp only [hji42] at H ⊢; exact H)
       (try rw [hji42] at A30)
       (try rw [hji42] at A39)
       (try rw [hji42] at A40)
       (try rw [hji42] at A41)
       have hji42_ : (if t168 < t167 then t168 else t167) = ji42 := hji42
       obtain ⟨ji43, hji43⟩ : ∃ j_ : Int, (mn (ji42) t169) = j_ := ⟨_, rfl⟩
       replace H : ((congruence_modulo.f t160 (ji43)).bind fun bt170 => (some (bt170.1, bt170.2))) = some (r1, r2) := by first | (rw [hji43] at H; exact H) | (simp only [hji43] at H ⊢; exact H)
       (try rw [hji43] at A30)
       (try rw [hji43] at A39)
       (try rw [hji43] at A40)
       (try rw [hji43] at A41)
       have hji43_ : (if t169 < (ji42) then t169 else (ji42)) = ji43 := hji43
       replace H := Option.bind_eq_some_iff.mp H
       obtain ⟨⟨t170, t171⟩, A440, H⟩ := H
       replace H : (some (t170, t171)) = some (r1, r2) := H
       have A44 := aK A440
       clear A440
       simp only [Option.some.injEq, Prod.mk.injEq] at H
       obtain ⟨rfl, rfl⟩ := H
       try go_wp2
       have n0_ := aK (blk_drew BK156.out)
       have n1_ := aK (blk_drew BK157.out)
       have n2_ := aK (blk_drew BK158.out)
       have n3_ := aK (below_drew1 HB.out)
       clear BK156
       clear BK157
       clear BK158
       clear HB
       have BK156 := n0_
       have BK157 := n1_
       have BK158 := n2_
       have HB := n3_
       clear n0_ n1_ n2_ n3_
       refine start_ (n := 4) (S := fun w' => w'.cell? ⟨gb157, 0, none⟩ = some (.int .i64 t161) ∧ w'.cell? ⟨gb157, 1, none⟩ = some (.int .i64 t162)) (ds := []) #[Z,Z,Z,Z] (by kernel_rfl) rfl rfl ⟨(blk_cell BK157.out 0).trans rfl, (blk_cell BK157.out 1).trans rfl⟩ (fun hHeld => ?_)
       generalize wc.drew = w45 at BK156 BK157 BK158 HB hHeld ⊢
       refine take_ (i := 0) (N := some 20) (v := ?_) (a' := ?_) #[Y,Z,Z,Z] rfl rfl (by kernel_rfl) (fun _ _ _ h => h) (Or.inl ⟨by rfl, ?_⟩) hHeld ?_ ?_
       rotate_left
       · rintro w' ⟨s0, s1⟩
         go_simp
         with_reducible rfl
       rotate_left
       · simp only [Act.put, sA, sB, sC, i64_w, i32_w]
         rfl
       refine one_ (i := 1) (N := some 21) #[Y,Y,Z,Z] rfl rfl (by kernel_rfl) (by decide) (fun K hK => ?_)
       refine goes_ Tryd.func9 (by kernel_rfl) rfl #[] (by rfl) rfl rfl (by (try simp only [mA, mB, mC]); first | done | rfl) ?_
       with_reducible refine (congruence_None.calls  t165 t166 _ A30.out).mono ?_
       rintro e w46 ⟨rfl, hb⟩
       refine ⟨_, rfl, ?_⟩
       have n0_ := aK (blk_below (g := gb156) (o := .cells #[.int .i64 t159, .int .i64 t160] 25 (0, 0)) (by (with_reducible repeat (first | refine bR ?_ | refine bA ?_ _)); exact BK156.out) hb)
       have n1_ := aK (blk_below (g := gb157) (o := .cells #[.int .i64 t161, .int .i64 t162] 25 (0, 0)) (by (with_reducible repeat (first | refine bR ?_ | refine bA ?_ _)); exact BK157.out) hb)
       have n2_ := aK (blk_below (g := gb158) (o := .cells #[.int .i64 0, .int .i64 0] 25 (0, 0)) (by (with_reducible repeat (first | refine bR ?_ | refine bA ?_ _)); exact BK158.out) hb)
       have n3_ := aK (below_step (by repeat (first | (with_reducible first | exact HB.out | apply hA | apply hN | apply hD | refine below_set ?_ GE156.out | refine below_set ?_ GE157.out | refine below_set ?_ GE158.out) | exact HB.out)) hb)
       clear BK156
       clear BK157
       clear BK158
       clear HB
       have BK156 := n0_
       have BK157 := n1_
       have BK158 := n2_
       have HB := n3_
       clear n0_ n1_ n2_ n3_
       (try clear hb)
       (try clear hb2)
       (try clear hk)
       (try clear hi)
       refine hK.out _ _ ⟨(blk_cell BK157.out 0).trans rfl, (blk_cell BK157.out 1).trans rfl⟩ (fun hHeld => ?_)
       clear hK K
       refine norm_ (a' := ?_) ?_ ?_
       rotate_left
       · show Act.put _ (some 21) _ = _
         simp only [Act.put, sA, sB, sC, i64_w, i32_w]
         rfl
       refine pure_ (i := 2) (N := some 22) (v := ?_) (a' := ?_) #[Y,Y,Y,Z] rfl rfl (by kernel_rfl) (fun _ _ _ h => h) (Or.inl ⟨by rfl, ?_⟩) ?_ ?_
       rotate_left
       · intro w'
         go_simp
         with_reducible rfl
       rotate_left
       · simp only [Act.put, sA, sB, sC, i64_w, i32_w]
         rfl
       refine pure_ (i := 3) (N := some 19) (v := ?_) (a' := ?_) #[Y,Y,Y,Y] rfl rfl (by kernel_rfl) (fun _ _ _ h => h) (Or.inl ⟨by rfl, ?_⟩) ?_ ?_
       rotate_left
       · intro w'
         go_simp
         with_reducible rfl
       rotate_left
       · simp only [Act.put, sA, sB, sC, i64_w, i32_w]
         rfl
       refine done_ (by kernel_rfl) ?_
       try go_wp2
       have n0_ := aK (blk_drew BK156.out)
       have n1_ := aK (blk_drew BK157.out)
       have n2_ := aK (blk_drew BK158.out)
       have n3_ := aK (below_drew1 HB.out)
       clear BK156
       clear BK157
       clear BK158
       clear HB
       have BK156 := n0_
       have BK157 := n1_
       have BK158 := n2_
       have HB := n3_
       clear n0_ n1_ n2_ n3_
       refine start_ (n := 17) (S := fun w' => w'.cell? ⟨gb156, 0, none⟩ = some (.int .i64 t159) ∧ w'.cell? ⟨gb156, 1, none⟩ = some (.int .i64 t160) ∧ w'.cell? ⟨gb157, 0, none⟩ = some (.int .i64 t161) ∧ w'.cell? ⟨gb157, 1, none⟩ = some (.int .i64 t162)) (ds := []) #[Z,Z,Z,Z,Z,Z,Z,Z,Z,Z,Z,Z,Z,Z,Z,Z,Z] (by kernel_rfl) rfl rfl ⟨(blk_cell BK156.out 0).trans rfl, (blk_cell BK156.out 1).trans rfl, (blk_cell BK157.out 0).trans rfl, (blk_cell BK157.out 1).trans rfl⟩ (fun hHeld => ?_); refine with_tabW congruence_Join.tab6 congruence_Join.bits6 (fun HT_ HW_ => ?_)
       generalize w46.drew = w47 at BK156 BK157 BK158 HB hHeld ⊢
       refine pure_ (i := 0) (N := some 24) (v := ?_) (a' := ?_) #[Y,Z,Z,Z,Z,Z,Z,Z,Z,Z,Z,Z,Z,Z,Z,Z,Z] rfl rfl (any_of HT_.out (by kernel_rfl)) (fun _ _ _ h => h) (Or.inl ⟨by rfl, ?_⟩) ?_ ?_
       rotate_left
       · intro w'
         go_simp
         with_reducible rfl
       rotate_left
       · simp only [Act.put, sA, sB, sC, i64_w, i32_w]
         rfl
       refine pure_ (i := 2) (N := some 26) (v := ?_) (a' := ?_) #[Y,Z,Y,Z,Z,Z,Z,Z,Z,Z,Z,Z,Z,Z,Z,Z,Z] rfl rfl (any_of HT_.out (by kernel_rfl)) (fun _ _ _ h => h) (Or.inl ⟨by rfl, ?_⟩) ?_ ?_
       rotate_left
       · intro w'
         go_simp
         with_reducible rfl
       rotate_left
       · simp only [Act.put, sA, sB, sC, i64_w, i32_w]
         rfl
       refine pure_ (i := 4) (N := some 28) (v := ?_) (a' := ?_) #[Y,Z,Y,Z,Y,Z,Z,Z,Z,Z,Z,Z,Z,Z,Z,Z,Z] rfl rfl (any_of HT_.out (by kernel_rfl)) (fun _ _ _ h => h) (Or.inl ⟨by rfl, ?_⟩) ?_ ?_
       rotate_left
       · intro w'
         go_simp
         with_reducible rfl
       rotate_left
       · simp only [Act.put, sA, sB, sC, i64_w, i32_w]
         rfl
       refine pure_ (i := 8) (N := some 32) (v := ?_) (a' := ?_) #[Y,Z,Y,Z,Y,Z,Z,Z,Y,Z,Z,Z,Z,Z,Z,Z,Z] rfl rfl (any_of HT_.out (by kernel_rfl)) (fun _ _ _ h => h) (Or.inl ⟨by rfl, ?_⟩) ?_ ?_
       rotate_left
       · intro w'
         go_simp
         with_reducible rfl
       rotate_left
       · simp only [Act.put, sA, sB, sC, i64_w, i32_w]
         rfl
       refine pure_ (i := 11) (N := some 35) (v := ?_) (a' := ?_) #[Y,Z,Y,Z,Y,Z,Z,Z,Y,Z,Z,Y,Z,Z,Z,Z,Z] rfl rfl (any_of HT_.out (by kernel_rfl)) (fun _ _ _ h => h) (Or.inl ⟨by rfl, ?_⟩) ?_ ?_
       rotate_left
       · intro w'
         go_simp
         with_reducible rfl
       rotate_left
       · simp only [Act.put, sA, sB, sC, i64_w, i32_w]
         rfl
       refine take_ (i := 1) (N := some 25) (v := ?_) (a' := ?_) #[Y,Y,Y,Z,Y,Z,Z,Z,Y,Z,Z,Y,Z,Z,Z,Z,Z] rfl rfl (take_ofW HT_.out HW_.out (by kernel_rfl)) (fun _ _ _ h => h) (Or.inl ⟨by rfl, ?_⟩) hHeld ?_ ?_
       rotate_left
       · rintro w' ⟨s0, s1, s2, s3⟩
         go_simp
         with_reducible rfl
       rotate_left
       · simp only [Act.put, sA, sB, sC, i64_w, i32_w]
         rfl
       refine take_ (i := 3) (N := some 27) (v := ?_) (a' := ?_) #[Y,Y,Y,Y,Y,Z,Z,Z,Y,Z,Z,Y,Z,Z,Z,Z,Z] rfl rfl (take_ofW HT_.out HW_.out (by kernel_rfl)) (fun _ _ _ h => h) (Or.inl ⟨by rfl, ?_⟩) hHeld ?_ ?_
       rotate_left
       · rintro w' ⟨s0, s1, s2, s3⟩
         go_simp
         with_reducible rfl
       rotate_left
       · simp only [Act.put, sA, sB, sC, i64_w, i32_w]
         rfl
       refine take_ (i := 5) (N := some 29) (v := ?_) (a' := ?_) #[Y,Y,Y,Y,Y,Y,Z,Z,Y,Z,Z,Y,Z,Z,Z,Z,Z] rfl rfl (take_ofW HT_.out HW_.out (by kernel_rfl)) (fun _ _ _ h => h) (Or.inl ⟨by rfl, ?_⟩) hHeld ?_ ?_
       rotate_left
       · rintro w' ⟨s0, s1, s2, s3⟩
         go_simp
         with_reducible rfl
       rotate_left
       · simp only [Act.put, sA, sB, sC, i64_w, i32_w]
         rfl
       refine pure_ (i := 6) (N := some 30) (v := ?_) (a' := ?_) #[Y,Y,Y,Y,Y,Y,Y,Z,Y,Z,Z,Y,Z,Z,Z,Z,Z] rfl rfl (any_of HT_.out (by kernel_rfl)) (fun _ _ _ h => h) (Or.inl ⟨by rfl, ?_⟩) ?_ ?_
       rotate_left
       · intro w'
         go_simp
         with_reducible rfl
       rotate_left
       · simp only [Act.put, sA, sB, sC, i64_w, i32_w]
         rfl
       refine take_ (i := 9) (N := some 33) (v := ?_) (a' := ?_) #[Y,Y,Y,Y,Y,Y,Y,Z,Y,Y,Z,Y,Z,Z,Z,Z,Z] rfl rfl (take_ofW HT_.out HW_.out (by kernel_rfl)) (fun _ _ _ h => h) (Or.inl ⟨by rfl, ?_⟩) hHeld ?_ ?_
       rotate_left
       · rintro w' ⟨s0, s1, s2, s3⟩
         go_simp
         with_reducible rfl
       rotate_left
       · simp only [Act.put, sA, sB, sC, i64_w, i32_w]
         rfl
       refine take_ (i := 12) (N := some 36) (v := ?_) (a' := ?_) #[Y,Y,Y,Y,Y,Y,Y,Z,Y,Y,Z,Y,Y,Z,Z,Z,Z] rfl rfl (take_ofW HT_.out HW_.out (by kernel_rfl)) (fun _ _ _ h => h) (Or.inl ⟨by rfl, ?_⟩) hHeld ?_ ?_
       rotate_left
       · rintro w' ⟨s0, s1, s2, s3⟩
         go_simp
         with_reducible rfl
       rotate_left
       · simp only [Act.put, sA, sB, sC, i64_w, i32_w]
         rfl
       refine one_ (i := 7) (N := some 31) #[Y,Y,Y,Y,Y,Y,Y,Y,Y,Y,Z,Y,Y,Z,Z,Z,Z] rfl rfl (one_of HT_.out (by kernel_rfl)) (by decide) (fun K hK => ?_)
       refine goes_ Tryd.func39 (by kernel_rfl) rfl #[.int .i64 (wrap64 (t160 - t162))] (by rfl) rfl rfl (by (try simp only [mA, mB, mC]); first | done | rfl) ?_
       with_reducible refine (congruence_zeros.calls (wrap64 (t160 - t162)) t167 _ A39.out (Go.Proofs.YtaphfmbloappkaaDoor.TabOK.below hT.out (by repeat (first | (with_reducible first | exact HB.out | apply hA | apply hN | apply hD | refine below_set ?_ GE156.out | refine below_set ?_ GE157.out | refine below_set ?_ GE158.out) | exact HB.out)))).mono ?_
       rintro e w48 ⟨rfl, hb⟩
       refine ⟨_, rfl, ?_⟩
       have n0_ := aK (blk_below (g := gb156) (o := .cells #[.int .i64 t159, .int .i64 t160] 25 (0, 0)) (by (with_reducible repeat (first | refine bR ?_ | refine bA ?_ _)); exact BK156.out) hb)
       have n1_ := aK (blk_below (g := gb157) (o := .cells #[.int .i64 t161, .int .i64 t162] 25 (0, 0)) (by (with_reducible repeat (first | refine bR ?_ | refine bA ?_ _)); exact BK157.out) hb)
       have n2_ := aK (blk_below (g := gb158) (o := .cells #[.int .i64 0, .int .i64 0] 25 (0, 0)) (by (with_reducible repeat (first | refine bR ?_ | refine bA ?_ _)); exact BK158.out) hb)
       have n3_ := aK (below_step (by repeat (first | (with_reducible first | exact HB.out | apply hA | apply hN | apply hD | refine below_set ?_ GE156.out | refine below_set ?_ GE157.out | refine below_set ?_ GE158.out) | exact HB.out)) hb)
       clear BK156
       clear BK157
       clear BK158
       clear HB
       have BK156 := n0_
       have BK157 := n1_
       have BK158 := n2_
       have HB := n3_
       clear n0_ n1_ n2_ n3_
       (try clear hb)
       (try clear hb2)
       (try clear hk)
       (try clear hi)
       refine hK.out _ _ ⟨(blk_cell BK156.out 0).trans rfl, (blk_cell BK156.out 1).trans rfl, (blk_cell BK157.out 0).trans rfl, (blk_cell BK157.out 1).trans rfl⟩ (fun hHeld => ?_)
       clear hK K
       refine norm_ (a' := ?_) ?_ ?_
       rotate_left
       · show Act.put _ (some 31) _ = _
         simp only [Act.put, sA, sB, sC, i64_w, i32_w]
         rfl
       refine one_ (i := 10) (N := some 34) #[Y,Y,Y,Y,Y,Y,Y,Y,Y,Y,Y,Y,Y,Z,Z,Z,Z] rfl rfl (one_of HT_.out (by kernel_rfl)) (by decide) (fun K hK => ?_)
       refine goes_ Tryd.func39 (by kernel_rfl) rfl #[.int .i64 t159] (by rfl) rfl rfl (by (try simp only [mA, mB, mC]); first | done | rfl) ?_
       with_reducible refine (congruence_zeros.calls t159 t168 _ A40.out (Go.Proofs.YtaphfmbloappkaaDoor.TabOK.below hT.out (by repeat (first | (with_reducible first | exact HB.out | apply hA | apply hN | apply hD | refine below_set ?_ GE156.out | refine below_set ?_ GE157.out | refine below_set ?_ GE158.out) | exact HB.out)))).mono ?_
       rintro e w49 ⟨rfl, hb⟩
       refine ⟨_, rfl, ?_⟩
       have n0_ := aK (blk_below (g := gb156) (o := .cells #[.int .i64 t159, .int .i64 t160] 25 (0, 0)) (by (with_reducible repeat (first | refine bR ?_ | refine bA ?_ _)); exact BK156.out) hb)
       have n1_ := aK (blk_below (g := gb157) (o := .cells #[.int .i64 t161, .int .i64 t162] 25 (0, 0)) (by (with_reducible repeat (first | refine bR ?_ | refine bA ?_ _)); exact BK157.out) hb)
       have n2_ := aK (blk_below (g := gb158) (o := .cells #[.int .i64 0, .int .i64 0] 25 (0, 0)) (by (with_reducible repeat (first | refine bR ?_ | refine bA ?_ _)); exact BK158.out) hb)
       have n3_ := aK (below_step (by repeat (first | (with_reducible first | exact HB.out | apply hA | apply hN | apply hD | refine below_set ?_ GE156.out | refine below_set ?_ GE157.out | refine below_set ?_ GE158.out) | exact HB.out)) hb)
       clear BK156
       clear BK157
       clear BK158
       clear HB
       have BK156 := n0_
       have BK157 := n1_
       have BK158 := n2_
       have HB := n3_
       clear n0_ n1_ n2_ n3_
       (try clear hb)
       (try clear hb2)
       (try clear hk)
       (try clear hi)
       refine hK.out _ _ ⟨(blk_cell BK156.out 0).trans rfl, (blk_cell BK156.out 1).trans rfl, (blk_cell BK157.out 0).trans rfl, (blk_cell BK157.out 1).trans rfl⟩ (fun hHeld => ?_)
       clear hK K
       refine norm_ (a' := ?_) ?_ ?_
       rotate_left
       · show Act.put _ (some 34) _ = _
         simp only [Act.put, sA, sB, sC, i64_w, i32_w]
         rfl
       refine one_ (i := 13) (N := some 37) #[Y,Y,Y,Y,Y,Y,Y,Y,Y,Y,Y,Y,Y,Y,Z,Z,Z] rfl rfl (one_of HT_.out (by kernel_rfl)) (by decide) (fun K hK => ?_)
       refine goes_ Tryd.func39 (by kernel_rfl) rfl #[.int .i64 t161] (by rfl) rfl rfl (by (try simp only [mA, mB, mC]); first | done | rfl) ?_
       with_reducible refine (congruence_zeros.calls t161 t169 _ A41.out (Go.Proofs.YtaphfmbloappkaaDoor.TabOK.below hT.out (by repeat (first | (with_reducible first | exact HB.out | apply hA | apply hN | apply hD | refine below_set ?_ GE156.out | refine below_set ?_ GE157.out | refine below_set ?_ GE158.out) | exact HB.out)))).mono ?_
       rintro e w50 ⟨rfl, hb⟩
       refine ⟨_, rfl, ?_⟩
       have n0_ := aK (blk_below (g := gb156) (o := .cells #[.int .i64 t159, .int .i64 t160] 25 (0, 0)) (by (with_reducible repeat (first | refine bR ?_ | refine bA ?_ _)); exact BK156.out) hb)
       have n1_ := aK (blk_below (g := gb157) (o := .cells #[.int .i64 t161, .int .i64 t162] 25 (0, 0)) (by (with_reducible repeat (first | refine bR ?_ | refine bA ?_ _)); exact BK157.out) hb)
       have n2_ := aK (blk_below (g := gb158) (o := .cells #[.int .i64 0, .int .i64 0] 25 (0, 0)) (by (with_reducible repeat (first | refine bR ?_ | refine bA ?_ _)); exact BK158.out) hb)
       have n3_ := aK (below_step (by repeat (first | (with_reducible first | exact HB.out | apply hA | apply hN | apply hD | refine below_set ?_ GE156.out | refine below_set ?_ GE157.out | refine below_set ?_ GE158.out) | exact HB.out)) hb)
       clear BK156
       clear BK157
       clear BK158
       clear HB
       have BK156 := n0_
       have BK157 := n1_
       have BK158 := n2_
       have HB := n3_
       clear n0_ n1_ n2_ n3_
       (try clear hb)
       (try clear hb2)
       (try clear hk)
       (try clear hi)
       refine hK.out _ _ ⟨(blk_cell BK156.out 0).trans rfl, (blk_cell BK156.out 1).trans rfl, (blk_cell BK157.out 0).trans rfl, (blk_cell BK157.out 1).trans rfl⟩ (fun hHeld => ?_)
       clear hK K
       refine norm_ (a' := ?_) ?_ ?_
       rotate_left
       · show Act.put _ (some 37) _ = _
         simp only [Act.put, sA, sB, sC, i64_w, i32_w]
         rfl
       refine pure_ (i := 14) (N := some 38) (v := ?_) (a' := ?_) #[Y,Y,Y,Y,Y,Y,Y,Y,Y,Y,Y,Y,Y,Y,Y,Z,Z] rfl rfl (any_of HT_.out (by kernel_rfl)) (fun _ _ _ h => h) (Or.inl ⟨by rfl, ?_⟩) ?_ ?_
       rotate_left
       · intro w'
         go_simp
         with_reducible rfl
       rotate_left
       · simp only [Act.put, sA, sB, sC, i64_w, i32_w]
         rfl
       refine one_ (i := 15) (N := some 39) #[Y,Y,Y,Y,Y,Y,Y,Y,Y,Y,Y,Y,Y,Y,Y,Y,Z] rfl rfl (one_of HT_.out (by kernel_rfl)) (by decide) (fun K hK => ?_)
       refine goes_ Tryd.func27 (by kernel_rfl) rfl #[.int .i64 t160, .int .i64 ji43] (by rfl) rfl rfl (by (try simp only [mA, mB, mC]); first | done | (simp only [hji43]; rfl) | rfl | (simp only [List.length_drop, List.length_take]; rfl)) ?_
       with_reducible refine (congruence_modulo.calls t160 ji43 t170 t171 _ A44.out).mono ?_
       rintro e w51 ⟨rfl, hb⟩
       refine ⟨_, rfl, ?_⟩
       have n0_ := aK (blk_below (g := gb156) (o := .cells #[.int .i64 t159, .int .i64 t160] 25 (0, 0)) (by (with_reducible repeat (first | refine bR ?_ | refine bA ?_ _)); exact BK156.out) hb)
       have n1_ := aK (blk_below (g := gb157) (o := .cells #[.int .i64 t161, .int .i64 t162] 25 (0, 0)) (by (with_reducible repeat (first | refine bR ?_ | refine bA ?_ _)); exact BK157.out) hb)
       have n2_ := aK (blk_below (g := gb158) (o := .cells #[.int .i64 0, .int .i64 0] 25 (0, 0)) (by (with_reducible repeat (first | refine bR ?_ | refine bA ?_ _)); exact BK158.out) hb)
       have n3_ := aK (below_step (by repeat (first | (with_reducible first | exact HB.out | apply hA | apply hN | apply hD | refine below_set ?_ GE156.out | refine below_set ?_ GE157.out | refine below_set ?_ GE158.out) | exact HB.out)) hb)
       clear BK156
       clear BK157
       clear BK158
       clear HB
       have BK156 := n0_
       have BK157 := n1_
       have BK158 := n2_
       have HB := n3_
       clear n0_ n1_ n2_ n3_
       (try clear hb)
       (try clear hb2)
       (try clear hk)
       (try clear hi)
       refine hK.out _ _ ⟨(blk_cell BK156.out 0).trans rfl, (blk_cell BK156.out 1).trans rfl, (blk_cell BK157.out 0).trans rfl, (blk_cell BK157.out 1).trans rfl⟩ (fun hHeld => ?_)
       clear hK K
       refine norm_ (a' := ?_) ?_ ?_
       rotate_left
       · show Act.put _ (some 39) _ = _
         simp only [Act.put, sA, sB, sC, i64_w, i32_w]
         rfl
       refine one_ (i := 16) (N := none) #[Y,Y,Y,Y,Y,Y,Y,Y,Y,Y,Y,Y,Y,Y,Y,Y,Y] rfl rfl (one_of HT_.out (by kernel_rfl)) (by decide) (fun K hK => ?_)
       have hs52 : w51.cell? ⟨gb158, 0, none⟩ = some (.int .i64 0) := (blk_cell BK158.out 0).trans rfl
       have hfs52 := blk_frozen BK158.out 0
       have hns52_0 := NB156_158.out
       have hns52_1 := NB157_158.out
       have hms52_0 := NB158_156.out
       have hms52_1 := NB158_157.out
       have hs53 : w51.cell? ⟨gb158, 1, none⟩ = some (.int .i64 0) := (blk_cell BK158.out 1).trans rfl
       have hfs53 := blk_frozen BK158.out 1
       have hns53_0 := NB156_158.out
       have hns53_1 := NB157_158.out
       have hms53_0 := NB158_156.out
       have hms53_1 := NB158_157.out
       refine skip_ (w1 := ?_) (by rfl) rfl ?_ ?_
       rotate_left
       · go_simp
         rfl
       refine hK.out _ _ ⟨((cell_far (p := ⟨gb158, _, none⟩) NB156_158.out _).trans (((cell_far (p := ⟨gb158, _, none⟩) NB156_158.out _).trans (hHeld.1)))), ((cell_far (p := ⟨gb158, _, none⟩) NB156_158.out _).trans (((cell_far (p := ⟨gb158, _, none⟩) NB156_158.out _).trans (hHeld.2.1)))), ((cell_far (p := ⟨gb158, _, none⟩) NB157_158.out _).trans (((cell_far (p := ⟨gb158, _, none⟩) NB157_158.out _).trans (hHeld.2.2.1)))), ((cell_far (p := ⟨gb158, _, none⟩) NB157_158.out _).trans (((cell_far (p := ⟨gb158, _, none⟩) NB157_158.out _).trans (hHeld.2.2.2))))⟩ (fun hHeld => ?_)
       clear hK K
       refine done_ (done_of HT_.out (by kernel_rfl)) ?_
       try go_wp2
       refine bodyPost_ret (results_cell_row rfl _ _ gb158 25 #[.int .i64 t170, .int .i64 t171] (0, 0) _ rfl (by (with_reducible repeat (first | refine bR ?_ | refine bA ?_ _)); refine blk_put (cs := #[.int .i64 t170, .int .i64 0]) ?_ 1 _ rfl; (with_reducible repeat (first | refine bR ?_ | refine bA ?_ _)); refine blk_put (cs := #[.int .i64 0, .int .i64 0]) ?_ 0 _ rfl; (with_reducible repeat (first | refine bR ?_ | refine bA ?_ _)); exact BK158.out) Tryd.underlying25 rfl (by kernel_rfl)) rfl ?_
       exact ⟨by first | rfl | (simp [errW_none, errW_some] <;> rfl) | (simp only [← hji42, ← hji43]; first | rfl | (simp [errW_none, errW_some] <;> rfl)) | (simp [*, errW_none, errW_some] <;> rfl), by repeat (first | (with_reducible first | exact HB.out | apply hA | apply hN | apply hD | refine below_set ?_ GE156.out | refine below_set ?_ GE157.out | refine below_set ?_ GE158.out) | exact HB.out)⟩
end Go.Proofs.YtaphfmbloappkaaDoorG.PAll
