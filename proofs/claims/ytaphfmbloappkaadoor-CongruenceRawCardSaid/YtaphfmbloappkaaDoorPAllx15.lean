-- The walks of some functions, printed by a program for this claim.
import Derived.Test.YtaphfmbloappkaaDoorPAllx0
import Derived.Test.YtaphfmbloappkaaDoorPAllx1
import Derived.Test.YtaphfmbloappkaaDoorPAllx11
import Derived.Test.YtaphfmbloappkaaDoorPAllx13
namespace Go.Proofs.YtaphfmbloappkaaDoorG.PAll
open Go.RowKit Go.Proofs.YtaphfmbloappkaaDoorW.PrintWords Go.Proofs.YtaphfmbloappkaaDoorW.PrintLast Go.Proofs.YtaphfmbloappkaaDoorW.PrintMore
attribute [local go_sem] max2_int min2_int max_two min_two max_three min_three max_four min_four   -- for this text's walks alone
set_option linter.unusedVariables false
set_option linter.unusedSimpArgs false
attribute [local go_sem high] eqA25
/-! ### timeboundref08_Join: function 33 -/
def timeboundref08_Join.l0 : Nat → Int → Int → Int → Int → Int → Option (Int × Int)
 | 0, _, _, _, _, _ => none
 | k + 1, x5, x374000, x374001, x375000, x375001 => if x5 > 0 then (if 0 ≤ (IntKind.u64.wrap (x5)) then (if (shl .i64 1 (IntKind.u64.wrap (x5))) = 0 then (none) else (if (Int.tmod (wrap64 (x374001 - x375001)) (shl .i64 1 (IntKind.u64.wrap (x5)))) = 0 then ((timeboundref08_low.f x374001 x5).bind fun bt386 => (some (bt386.1, bt386.2))) else (timeboundref08_Join.l0 k (wrap64 (x5 - 1)) x374000 x374001 x375000 x375001))) else (none)) else ((timeboundref08_low.f x374001 x5).bind fun bt388 => (some (bt388.1, bt388.2)))
def timeboundref08_Join.f (k : Nat) (a0_0 : Int) (a0_1 : Int) (a1_0 : Int) (a1_1 : Int) : Option (Int × Int) := (timeboundref08_Form.f k a0_0 a0_1).bind fun bt376 => ((timeboundref08_Form.f k a1_0 a1_1).bind fun bt378 => ((timeboundref08_None.f).bind fun bt380 => (if (bt376.1 == bt380.1 && (bt376.2 == bt380.2)) = true then (some (bt378.1, bt378.2)) else ((timeboundref08_None.f).bind fun bt382 => (if (bt378.1 == bt382.1 && (bt378.2 == bt382.2)) = true then (some (bt376.1, bt376.2)) else (if (bt376.1 == bt378.1 && (bt376.2 == bt378.2)) = true then (some (bt376.1, bt376.2)) else ((timeboundref08_Bits.f k bt376.1 bt376.2).bind fun t384 => ((timeboundref08_Bits.f k bt378.1 bt378.2).bind fun t385 => (timeboundref08_Join.l0 k (mn (mn t384 t385) 30) bt376.1 bt376.2 bt378.1 bt378.2)))))))))
theorem timeboundref08_Join.mono_l : ∀ k, (∀ y0 y1 y2 y3 y4, LeO (timeboundref08_Join.l0 k y0 y1 y2 y3 y4) (timeboundref08_Join.l0 (k + 1) y0 y1 y2 y3 y4))
 | 0 => fun _ _ _ _ _ r h => by simp [timeboundref08_Join.l0] at h
 | k + 1 => by
  have ih0 := timeboundref08_Join.mono_l k
  · intro y0 y1 y2 y3 y4
    unfold timeboundref08_Join.l0
    repeat' first
    | (with_reducible exact ih0 _ _ _ _ _)
    | (with_reducible exact timeboundref08_Bits.mono _ _ _)
    | (with_reducible exact timeboundref08_Form.mono _ _ _)
    | (with_reducible exact LeO.refl _)
    | (with_reducible exact LeO.none _)
    | (with_reducible refine LeO.ite ?_ ?_)
    | (with_reducible refine LeO.bind ?_ (fun _ => ?_))
    | exact ih0 _ _ _ _ _
    | exact timeboundref08_Bits.mono _ _ _
    | exact timeboundref08_Form.mono _ _ _
    | exact LeO.none _
    | refine LeO.ite ?_ ?_
    | refine LeO.bind ?_ (fun _ => ?_)
theorem timeboundref08_Join.mono : ∀ a0 a1 a2 a3 k, LeO (timeboundref08_Join.f k a0 a1 a2 a3) (timeboundref08_Join.f (k + 1) a0 a1 a2 a3) := by
 intro a0 a1 a2 a3 k
 have ih0 := timeboundref08_Join.mono_l k
 unfold timeboundref08_Join.f
 repeat' first
  | (with_reducible exact ih0 _ _ _ _ _)
  | (with_reducible exact timeboundref08_Bits.mono _ _ _)
  | (with_reducible exact timeboundref08_Form.mono _ _ _)
  | (with_reducible exact LeO.refl _)
  | (with_reducible exact LeO.none _)
  | (with_reducible refine LeO.ite ?_ ?_)
  | (with_reducible refine LeO.bind ?_ (fun _ => ?_))
  | exact ih0 _ _ _ _ _
  | exact timeboundref08_Bits.mono _ _ _
  | exact timeboundref08_Form.mono _ _ _
  | exact LeO.none _
  | refine LeO.ite ?_ ?_
  | refine LeO.bind ?_ (fun _ => ?_)
def timeboundref08_Join.T4 : Bool × List (List Nat × List Nat) := (true, [([], []), ([], []), ([0, 1], [0, 1]), ([2, 1], [2]), ([3], [3]), ([3], [3]), ([4, 5, 3], [3, 4, 5]), ([3, 6], [3, 6]), ([7, 3], [7])])
def timeboundref08_Join.B4 : List Nat := [0, 0, 3, 7, 15, 15, 63, 127, 255]
theorem timeboundref08_Join.tab4 : rtab .any (opsOf Tryd.f33 4) = timeboundref08_Join.T4 := by kernel_rfl
theorem timeboundref08_Join.bits4 : waitsOk timeboundref08_Join.T4.2 timeboundref08_Join.B4 = true := by kernel_rfl
set_option maxHeartbeats 80000000 in
set_option maxRecDepth 100000 in
theorem timeboundref08_Join.calls (k : Nat) (a0_0 : Int) (a0_1 : Int) (a1_0 : Int) (a1_1 : Int) (r1 : Int) (r2 : Int) (w : World) (h : timeboundref08_Join.f k a0_0 a0_1 a1_0 a1_1 = some (r1, r2)) :
 Calls Tryd.prog 33 #[.agg #[.int .i64 a0_0, .int .i64 a0_1], .agg #[.int .i64 a1_0, .int .i64 a1_1]] w fun e w' => e = .returned (.agg #[.int .i64 r1, .int .i64 r2]) ∧ Below w.heap.size w w' := by
 have hu25 := Tryd.underlying25
 have HB := aK (Below.refl w.heap.size w)
 have H : ((timeboundref08_Form.f k a0_0 a0_1).bind fun bt376 => ((timeboundref08_Form.f k a1_0 a1_1).bind fun bt378 => ((timeboundref08_None.f).bind fun bt380 => (if (bt376.1 == bt380.1 && (bt376.2 == bt380.2)) = true then (some (bt378.1, bt378.2)) else ((timeboundref08_None.f).bind fun bt382 => (if (bt378.1 == bt382.1 && (bt378.2 == bt382.2)) = true then (some (bt376.1, bt376.2)) else (if (bt376.1 == bt378.1 && (bt376.2 == bt378.2)) = true then (some (bt376.1, bt376.2)) else ((timeboundref08_Bits.f k bt376.1 bt376.2).bind fun t384 => ((timeboundref08_Bits.f k bt378.1 bt378.2).bind fun t385 => (timeboundref08_Join.l0 k (mn (mn t384 t385) 30) bt376.1 bt376.2 bt378.1 bt378.2)))))))))) = some (r1, r2) := h
 clear h
 replace H := Option.bind_eq_some_iff.mp H
 obtain ⟨⟨t376, t377⟩, A30, H⟩ := H
 replace H : ((timeboundref08_Form.f k a1_0 a1_1).bind fun bt378 => ((timeboundref08_None.f).bind fun bt380 => (if (t376 == bt380.1 && (t377 == bt380.2)) = true then (some (bt378.1, bt378.2)) else ((timeboundref08_None.f).bind fun bt382 => (if (bt378.1 == bt382.1 && (bt378.2 == bt382.2)) = true then (some (t376, t377)) else (if (t376 == bt378.1 && (t377 == bt378.2)) = true then (some (t376, t377)) else ((timeboundref08_Bits.f k t376 t377).bind fun t384 => ((timeboundref08_Bits.f k bt378.1 bt378.2).bind fun t385 => (timeboundref08_Join.l0 k (mn (mn t384 t385) 30) t376 t377 bt378.1 bt378.2))))))))) = some (r1, r2) := H
 have A3 := aK A30
 clear A30
 replace H := Option.bind_eq_some_iff.mp H
 obtain ⟨⟨t378, t379⟩, A40, H⟩ := H
 replace H : ((timeboundref08_None.f).bind fun bt380 => (if (t376 == bt380.1 && (t377 == bt380.2)) = true then (some (t378, t379)) else ((timeboundref08_None.f).bind fun bt382 => (if (t378 == bt382.1 && (t379 == bt382.2)) = true then (some (t376, t377)) else (if (t376 == t378 && (t377 == t379)) = true then (some (t376, t377)) else ((timeboundref08_Bits.f k t376 t377).bind fun t384 => ((timeboundref08_Bits.f k t378 t379).bind fun t385 => (timeboundref08_Join.l0 k (mn (mn t384 t385) 30) t376 t377 t378 t379)))))))) = some (r1, r2) := H
 have A4 := aK A40
 clear A40
 replace H := Option.bind_eq_some_iff.mp H
 obtain ⟨⟨t380, t381⟩, A50, H⟩ := H
 replace H : (if (t376 == t380 && (t377 == t381)) = true then (some (t378, t379)) else ((timeboundref08_None.f).bind fun bt382 => (if (t378 == bt382.1 && (t379 == bt382.2)) = true then (some (t376, t377)) else (if (t376 == t378 && (t377 == t379)) = true then (some (t376, t377)) else ((timeboundref08_Bits.f k t376 t377).bind fun t384 => ((timeboundref08_Bits.f k t378 t379).bind fun t385 => (timeboundref08_Join.l0 k (mn (mn t384 t385) 30) t376 t377 t378 t379))))))) = some (r1, r2) := H
 have A5 := aK A50
 clear A50
 by_cases c6 : (t376 == t380 && (t377 == t381)) = true
 · rw [if_pos c6] at H
   have c6b0 : (t376 == t380 && (t377 == t381)) = true := c6
   (try (have c6b1 : decide (t376 = t380 && (t377 == t381)) = true := by simpa using c6))
   (try (have c6b2 : (t376 == t380 && (t377 == t381)) = true := by simpa using c6))
   clear c6
   simp only [Option.some.injEq, Prod.mk.injEq] at H
   obtain ⟨rfl, rfl⟩ := H
   go_enter Tryd.func33, Tryd.ntmps33
   try go_wp2_with (first | ((with_reducible refine gate_dst (N := 2) rfl ?_); refine box_event ?hg (N := 2) ?hd (cs := #[.int .i64 a0_0, .int .i64 a0_1]) (t := 25) ?hr ?_; (case hd => rfl); (case hg => rfl); (case hr => first | (go_simp; done) | (go_simp; rfl)); intro gb373 hg w7 hbox hb; have n0_ := aK (below_step (by repeat (first | (with_reducible first | exact HB.out | apply hA | apply hN | apply hD) | exact HB.out)) hb); have n1_ := aK (hbox); have n2_ := aK ((by rw [hg]; exact (below_size (by repeat (first | (with_reducible first | exact HB.out | apply hA | apply hN | apply hD) | exact HB.out))) : w.heap.size ≤ gb373)); have n3_ := aK ((by rw [hg]; exact (below_size (by repeat (first | (with_reducible first | exact HB.out | apply hA | apply hN | apply hD) | exact HB.out))) : w.heap.size ≤ gb373)); clear HB; have HB := n0_; have BK373 := n1_; have GW373 := n2_; have GE373 := n3_; clear n0_ n1_ n2_ n3_; clear hb hbox hg) | ((with_reducible refine gate_dst (N := 3) rfl ?_); refine box_event ?hg (N := 3) ?hd (cs := #[.int .i64 a1_0, .int .i64 a1_1]) (t := 25) ?hr ?_; (case hd => rfl); (case hg => rfl); (case hr => first | (go_simp; done) | (go_simp; rfl)); intro gb374 hg w8 hbox hb; have n0_ := aK (blk_below (g := gb373) (o := .cells #[.int .i64 a0_0, .int .i64 a0_1] 25 (0, 0)) (by (with_reducible repeat (first | refine bR ?_ | refine bA ?_ _)); exact BK373.out) hb); have n1_ := aK (below_step (by repeat (first | (with_reducible first | exact HB.out | apply hA | apply hN | apply hD | refine below_set ?_ GE373.out) | exact HB.out)) hb); have n2_ := aK (hbox); have n3_ := aK ((by rw [hg]; exact (below_size (by repeat (first | (with_reducible first | exact HB.out | apply hA | apply hN | apply hD | refine below_set ?_ GE373.out) | exact HB.out))) : w.heap.size ≤ gb374)); have n4_ := aK ((by rw [hg]; exact (below_size (by repeat (first | (with_reducible first | exact HB.out | apply hA | apply hN | apply hD | refine below_set ?_ GE373.out) | exact HB.out))) : w.heap.size ≤ gb374)); have n5_ := aK ((by rw [hg]; exact Nat.ne_of_lt (blk_lt (g := gb373) (o := .cells #[.int .i64 a0_0, .int .i64 a0_1] 25 (0, 0)) (by (with_reducible repeat (first | refine bR ?_ | refine bA ?_ _)); exact BK373.out)) : gb373 ≠ gb374)); have n6_ := aK ((by rw [hg]; exact Nat.ne_of_gt (blk_lt (g := gb373) (o := .cells #[.int .i64 a0_0, .int .i64 a0_1] 25 (0, 0)) (by (with_reducible repeat (first | refine bR ?_ | refine bA ?_ _)); exact BK373.out)) : gb374 ≠ gb373)); clear BK373; clear HB; have BK373 := n0_; have HB := n1_; have BK374 := n2_; have GW374 := n3_; have GE374 := n4_; have NB373_374 := n5_; have NB374_373 := n6_; clear n0_ n1_ n2_ n3_ n4_ n5_ n6_; clear hb hbox hg) | ((with_reducible refine gate_dst (N := 4) rfl ?_); refine box_event ?hg (N := 4) ?hd (cs := #[.int .i64 0, .int .i64 0]) (t := 25) ?hr ?_; (case hd => rfl); (case hg => rfl); (case hr => first | (go_simp; done) | (go_simp; rfl)); intro gb375 hg w9 hbox hb; have n0_ := aK (blk_below (g := gb373) (o := .cells #[.int .i64 a0_0, .int .i64 a0_1] 25 (0, 0)) (by (with_reducible repeat (first | refine bR ?_ | refine bA ?_ _)); exact BK373.out) hb); have n1_ := aK (blk_below (g := gb374) (o := .cells #[.int .i64 a1_0, .int .i64 a1_1] 25 (0, 0)) (by (with_reducible repeat (first | refine bR ?_ | refine bA ?_ _)); exact BK374.out) hb); have n2_ := aK (below_step (by repeat (first | (with_reducible first | exact HB.out | apply hA | apply hN | apply hD | refine below_set ?_ GE373.out | refine below_set ?_ GE374.out) | exact HB.out)) hb); have n3_ := aK (hbox); have n4_ := aK ((by rw [hg]; exact (below_size (by repeat (first | (with_reducible first | exact HB.out | apply hA | apply hN | apply hD | refine below_set ?_ GE373.out | refine below_set ?_ GE374.out) | exact HB.out))) : w.heap.size ≤ gb375)); have n5_ := aK ((by rw [hg]; exact (below_size (by repeat (first | (with_reducible first | exact HB.out | apply hA | apply hN | apply hD | refine below_set ?_ GE373.out | refine below_set ?_ GE374.out) | exact HB.out))) : w.heap.size ≤ gb375)); have n6_ := aK ((by rw [hg]; exact Nat.ne_of_lt (blk_lt (g := gb373) (o := .cells #[.int .i64 a0_0, .int .i64 a0_1] 25 (0, 0)) (by (with_reducible repeat (first | refine bR ?_ | refine bA ?_ _)); exact BK373.out)) : gb373 ≠ gb375)); have n7_ := aK ((by rw [hg]; exact Nat.ne_of_gt (blk_lt (g := gb373) (o := .cells #[.int .i64 a0_0, .int .i64 a0_1] 25 (0, 0)) (by (with_reducible repeat (first | refine bR ?_ | refine bA ?_ _)); exact BK373.out)) : gb375 ≠ gb373)); have n8_ := aK ((by rw [hg]; exact Nat.ne_of_lt (blk_lt (g := gb374) (o := .cells #[.int .i64 a1_0, .int .i64 a1_1] 25 (0, 0)) (by (with_reducible repeat (first | refine bR ?_ | refine bA ?_ _)); exact BK374.out)) : gb374 ≠ gb375)); have n9_ := aK ((by rw [hg]; exact Nat.ne_of_gt (blk_lt (g := gb374) (o := .cells #[.int .i64 a1_0, .int .i64 a1_1] 25 (0, 0)) (by (with_reducible repeat (first | refine bR ?_ | refine bA ?_ _)); exact BK374.out)) : gb375 ≠ gb374)); clear BK373; clear BK374; clear HB; have BK373 := n0_; have BK374 := n1_; have HB := n2_; have BK375 := n3_; have GW375 := n4_; have GE375 := n5_; have NB373_375 := n6_; have NB375_373 := n7_; have NB374_375 := n8_; have NB375_374 := n9_; clear n0_ n1_ n2_ n3_ n4_ n5_ n6_ n7_ n8_ n9_; clear hb hbox hg))
   have n0_ := aK (blk_drew BK373.out)
   have n1_ := aK (blk_drew BK374.out)
   have n2_ := aK (blk_drew BK375.out)
   have n3_ := aK (below_drew1 HB.out)
   clear BK373
   clear BK374
   clear BK375
   clear HB
   have BK373 := n0_
   have BK374 := n1_
   have BK375 := n2_
   have HB := n3_
   clear n0_ n1_ n2_ n3_
   refine start_ (n := 6) (S := fun w' => w'.cell? ⟨gb373, 0, none⟩ = some (.int .i64 a0_0) ∧ w'.cell? ⟨gb373, 1, none⟩ = some (.int .i64 a0_1) ∧ w'.cell? ⟨gb374, 0, none⟩ = some (.int .i64 a1_0) ∧ w'.cell? ⟨gb374, 1, none⟩ = some (.int .i64 a1_1)) (ds := [4, 5]) #[Z,Z,Z,Z,Z,Z] (by kernel_rfl) rfl rfl ⟨(blk_cell BK373.out 0).trans rfl, (blk_cell BK373.out 1).trans rfl, (blk_cell BK374.out 0).trans rfl, (blk_cell BK374.out 1).trans rfl⟩ (fun hHeld => ?_)
   generalize w9.drew = w10 at BK373 BK374 BK375 HB hHeld ⊢
   refine take_ (i := 0) (N := some 6) (v := ?_) (a' := ?_) #[Y,Z,Z,Z,Z,Z] rfl rfl (by kernel_rfl) (fun _ _ _ h => h) (Or.inl ⟨by rfl, ?_⟩) hHeld ?_ ?_
   rotate_left
   · rintro w' ⟨s0, s1, s2, s3⟩
     go_simp
     with_reducible rfl
   rotate_left
   · simp only [Act.put, sA, sB, sC, i64_w, i32_w]
     rfl
   refine take_ (i := 2) (N := some 8) (v := ?_) (a' := ?_) #[Y,Z,Y,Z,Z,Z] rfl rfl (by kernel_rfl) (fun _ _ _ h => h) (Or.inl ⟨by rfl, ?_⟩) hHeld ?_ ?_
   rotate_left
   · rintro w' ⟨s0, s1, s2, s3⟩
     go_simp
     with_reducible rfl
   rotate_left
   · simp only [Act.put, sA, sB, sC, i64_w, i32_w]
     rfl
   refine one_ (i := 1) (N := some 7) #[Y,Y,Y,Z,Z,Z] rfl rfl (by kernel_rfl) (by decide) (fun K hK => ?_)
   refine goes_ Tryd.func42 (by kernel_rfl) rfl #[.agg #[.int .i64 a0_0, .int .i64 a0_1]] (by rfl) rfl rfl (by (try simp only [mA, mB, mC]); first | done | rfl) ?_
   with_reducible refine (timeboundref08_Form.calls k a0_0 a0_1 t376 t377 _ A3.out).mono ?_
   rintro e w11 ⟨rfl, hb⟩
   refine ⟨_, rfl, ?_⟩
   have n0_ := aK (blk_below (g := gb373) (o := .cells #[.int .i64 a0_0, .int .i64 a0_1] 25 (0, 0)) (by (with_reducible repeat (first | refine bR ?_ | refine bA ?_ _)); exact BK373.out) hb)
   have n1_ := aK (blk_below (g := gb374) (o := .cells #[.int .i64 a1_0, .int .i64 a1_1] 25 (0, 0)) (by (with_reducible repeat (first | refine bR ?_ | refine bA ?_ _)); exact BK374.out) hb)
   have n2_ := aK (blk_below (g := gb375) (o := .cells #[.int .i64 0, .int .i64 0] 25 (0, 0)) (by (with_reducible repeat (first | refine bR ?_ | refine bA ?_ _)); exact BK375.out) hb)
   have n3_ := aK (below_step (by repeat (first | (with_reducible first | exact HB.out | apply hA | apply hN | apply hD | refine below_set ?_ GE373.out | refine below_set ?_ GE374.out | refine below_set ?_ GE375.out) | exact HB.out)) hb)
   clear BK373
   clear BK374
   clear BK375
   clear HB
   have BK373 := n0_
   have BK374 := n1_
   have BK375 := n2_
   have HB := n3_
   clear n0_ n1_ n2_ n3_
   (try clear hb)
   (try clear hb2)
   (try clear hk)
   (try clear hi)
   refine hK.out _ _ ⟨(blk_cell BK373.out 0).trans rfl, (blk_cell BK373.out 1).trans rfl, (blk_cell BK374.out 0).trans rfl, (blk_cell BK374.out 1).trans rfl⟩ (fun hHeld => ?_)
   clear hK K
   refine norm_ (a' := ?_) ?_ ?_
   rotate_left
   · show Act.put _ (some 7) _ = _
     simp only [Act.put, sA, sB, sC, i64_w, i32_w]
     rfl
   refine one_ (i := 3) (N := some 9) #[Y,Y,Y,Y,Z,Z] rfl rfl (by kernel_rfl) (by decide) (fun K hK => ?_)
   refine goes_ Tryd.func42 (by kernel_rfl) rfl #[.agg #[.int .i64 a1_0, .int .i64 a1_1]] (by rfl) rfl rfl (by (try simp only [mA, mB, mC]); first | done | rfl) ?_
   with_reducible refine (timeboundref08_Form.calls k a1_0 a1_1 t378 t379 _ A4.out).mono ?_
   rintro e w12 ⟨rfl, hb⟩
   refine ⟨_, rfl, ?_⟩
   have n0_ := aK (blk_below (g := gb373) (o := .cells #[.int .i64 a0_0, .int .i64 a0_1] 25 (0, 0)) (by (with_reducible repeat (first | refine bR ?_ | refine bA ?_ _)); exact BK373.out) hb)
   have n1_ := aK (blk_below (g := gb374) (o := .cells #[.int .i64 a1_0, .int .i64 a1_1] 25 (0, 0)) (by (with_reducible repeat (first | refine bR ?_ | refine bA ?_ _)); exact BK374.out) hb)
   have n2_ := aK (blk_below (g := gb375) (o := .cells #[.int .i64 0, .int .i64 0] 25 (0, 0)) (by (with_reducible repeat (first | refine bR ?_ | refine bA ?_ _)); exact BK375.out) hb)
   have n3_ := aK (below_step (by repeat (first | (with_reducible first | exact HB.out | apply hA | apply hN | apply hD | refine below_set ?_ GE373.out | refine below_set ?_ GE374.out | refine below_set ?_ GE375.out) | exact HB.out)) hb)
   clear BK373
   clear BK374
   clear BK375
   clear HB
   have BK373 := n0_
   have BK374 := n1_
   have BK375 := n2_
   have HB := n3_
   clear n0_ n1_ n2_ n3_
   (try clear hb)
   (try clear hb2)
   (try clear hk)
   (try clear hi)
   refine hK.out _ _ ⟨(blk_cell BK373.out 0).trans rfl, (blk_cell BK373.out 1).trans rfl, (blk_cell BK374.out 0).trans rfl, (blk_cell BK374.out 1).trans rfl⟩ (fun hHeld => ?_)
   clear hK K
   refine norm_ (a' := ?_) ?_ ?_
   rotate_left
   · show Act.put _ (some 9) _ = _
     simp only [Act.put, sA, sB, sC, i64_w, i32_w]
     rfl
   refine last_ (i := 4) (N := none) #[Y,Y,Y,Y,Y,Z] rfl rfl (by kernel_rfl) (by decide) (fun K hK => ?_)
   have hs13 : w12.cell? ⟨gb373, 0, none⟩ = some (.int .i64 a0_0) := (blk_cell BK373.out 0).trans rfl
   have hfs13 := blk_frozen BK373.out 0
   have hns13_1 := NB374_373.out
   have hns13_2 := NB375_373.out
   have hms13_1 := NB373_374.out
   have hms13_2 := NB373_375.out
   have hs14 : w12.cell? ⟨gb373, 1, none⟩ = some (.int .i64 a0_1) := (blk_cell BK373.out 1).trans rfl
   have hfs14 := blk_frozen BK373.out 1
   have hns14_1 := NB374_373.out
   have hns14_2 := NB375_373.out
   have hms14_1 := NB373_374.out
   have hms14_2 := NB373_375.out
   refine skip_ (w1 := ?_) (by rfl) rfl ?_ ?_
   rotate_left
   · go_simp
     rfl
   refine hK.out _ _ ?_
   clear hK K
   refine last_ (i := 5) (N := none) #[Y,Y,Y,Y,Y,Y] rfl rfl (by kernel_rfl) (by decide) (fun K hK => ?_)
   have hs15 : w12.cell? ⟨gb374, 0, none⟩ = some (.int .i64 a1_0) := (blk_cell BK374.out 0).trans rfl
   have hfs15 := blk_frozen BK374.out 0
   have hns15_0 := NB373_374.out
   have hns15_2 := NB375_374.out
   have hms15_0 := NB374_373.out
   have hms15_2 := NB374_375.out
   have hs16 : w12.cell? ⟨gb374, 1, none⟩ = some (.int .i64 a1_1) := (blk_cell BK374.out 1).trans rfl
   have hfs16 := blk_frozen BK374.out 1
   have hns16_0 := NB373_374.out
   have hns16_2 := NB375_374.out
   have hms16_0 := NB374_373.out
   have hms16_2 := NB374_375.out
   refine skip_ (w1 := ?_) (by rfl) rfl ?_ ?_
   rotate_left
   · go_simp
     rfl
   refine hK.out _ _ ?_
   clear hK K
   refine done_ (by kernel_rfl) ?_
   try go_wp2
   have n0_ : Aside0 (((((w12.setCell ⟨gb373, 0, none⟩ (.int .i64 t376)).setCell ⟨gb373, 1, none⟩ (.int .i64 t377)).setCell ⟨gb374, 0, none⟩ (.int .i64 t378)).setCell ⟨gb374, 1, none⟩ (.int .i64 t379)).heap[gb373]? = some (.cells #[.int .i64 t376, .int .i64 t377] 25 (0, 0))) := ⟨by (with_reducible repeat (first | refine bR ?_ | refine bA ?_ _)); refine blk_far ?_ NB373_374.out _; (with_reducible repeat (first | refine bR ?_ | refine bA ?_ _)); refine blk_far ?_ NB373_374.out _; (with_reducible repeat (first | refine bR ?_ | refine bA ?_ _)); refine blk_put (cs := #[.int .i64 t376, .int .i64 a0_1]) ?_ 1 _ rfl; (with_reducible repeat (first | refine bR ?_ | refine bA ?_ _)); refine blk_put (cs := #[.int .i64 a0_0, .int .i64 a0_1]) ?_ 0 _ rfl; (with_reducible repeat (first | refine bR ?_ | refine bA ?_ _)); exact BK373.out⟩
   have n1_ : Aside0 (((((w12.setCell ⟨gb373, 0, none⟩ (.int .i64 t376)).setCell ⟨gb373, 1, none⟩ (.int .i64 t377)).setCell ⟨gb374, 0, none⟩ (.int .i64 t378)).setCell ⟨gb374, 1, none⟩ (.int .i64 t379)).heap[gb374]? = some (.cells #[.int .i64 t378, .int .i64 t379] 25 (0, 0))) := ⟨by (with_reducible repeat (first | refine bR ?_ | refine bA ?_ _)); refine blk_put (cs := #[.int .i64 t378, .int .i64 a1_1]) ?_ 1 _ rfl; (with_reducible repeat (first | refine bR ?_ | refine bA ?_ _)); refine blk_put (cs := #[.int .i64 a1_0, .int .i64 a1_1]) ?_ 0 _ rfl; (with_reducible repeat (first | refine bR ?_ | refine bA ?_ _)); refine blk_far ?_ NB374_373.out _; (with_reducible repeat (first | refine bR ?_ | refine bA ?_ _)); refine blk_far ?_ NB374_373.out _; (with_reducible repeat (first | refine bR ?_ | refine bA ?_ _)); exact BK374.out⟩
   have n2_ : Aside0 (((((w12.setCell ⟨gb373, 0, none⟩ (.int .i64 t376)).setCell ⟨gb373, 1, none⟩ (.int .i64 t377)).setCell ⟨gb374, 0, none⟩ (.int .i64 t378)).setCell ⟨gb374, 1, none⟩ (.int .i64 t379)).heap[gb375]? = some (.cells #[.int .i64 0, .int .i64 0] 25 (0, 0))) := ⟨by (with_reducible repeat (first | refine bR ?_ | refine bA ?_ _)); refine blk_far ?_ NB375_374.out _; (with_reducible repeat (first | refine bR ?_ | refine bA ?_ _)); refine blk_far ?_ NB375_374.out _; (with_reducible repeat (first | refine bR ?_ | refine bA ?_ _)); refine blk_far ?_ NB375_373.out _; (with_reducible repeat (first | refine bR ?_ | refine bA ?_ _)); refine blk_far ?_ NB375_373.out _; (with_reducible repeat (first | refine bR ?_ | refine bA ?_ _)); exact BK375.out⟩
   have n3_ : Aside0 (Below w.heap.size w ((((w12.setCell ⟨gb373, 0, none⟩ (.int .i64 t376)).setCell ⟨gb373, 1, none⟩ (.int .i64 t377)).setCell ⟨gb374, 0, none⟩ (.int .i64 t378)).setCell ⟨gb374, 1, none⟩ (.int .i64 t379))) := ⟨by repeat (first | (with_reducible first | exact HB.out | apply hA | apply hN | apply hD | refine below_set ?_ GE373.out | refine below_set ?_ GE374.out | refine below_set ?_ GE375.out) | exact HB.out)⟩
   (try clear BK373)
   (try clear BK374)
   (try clear BK375)
   (try clear HB)
   generalize ((((w12.setCell ⟨gb373, 0, none⟩ (.int .i64 t376)).setCell ⟨gb373, 1, none⟩ (.int .i64 t377)).setCell ⟨gb374, 0, none⟩ (.int .i64 t378)).setCell ⟨gb374, 1, none⟩ (.int .i64 t379)) = w17 at n0_ n1_ n2_ n3_ ⊢
   have BK373 := n0_
   have BK374 := n1_
   have BK375 := n2_
   have HB := n3_
   clear n0_ n1_ n2_ n3_
   have n0_ := aK (blk_drew BK373.out)
   have n1_ := aK (blk_drew BK374.out)
   have n2_ := aK (blk_drew BK375.out)
   have n3_ := aK (below_drew1 HB.out)
   clear BK373
   clear BK374
   clear BK375
   clear HB
   have BK373 := n0_
   have BK374 := n1_
   have BK375 := n2_
   have HB := n3_
   clear n0_ n1_ n2_ n3_
   refine start_ (n := 4) (S := fun w' => w'.cell? ⟨gb373, 0, none⟩ = some (.int .i64 t376) ∧ w'.cell? ⟨gb373, 1, none⟩ = some (.int .i64 t377)) (ds := []) #[Z,Z,Z,Z] (by kernel_rfl) rfl rfl ⟨(blk_cell BK373.out 0).trans rfl, (blk_cell BK373.out 1).trans rfl⟩ (fun hHeld => ?_)
   generalize w17.drew = w18 at BK373 BK374 BK375 HB hHeld ⊢
   refine take_ (i := 0) (N := some 11) (v := ?_) (a' := ?_) #[Y,Z,Z,Z] rfl rfl (by kernel_rfl) (fun _ _ _ h => h) (Or.inl ⟨by rfl, ?_⟩) hHeld ?_ ?_
   rotate_left
   · rintro w' ⟨s0, s1⟩
     go_simp
     with_reducible rfl
   rotate_left
   · simp only [Act.put, sA, sB, sC, i64_w, i32_w]
     rfl
   refine one_ (i := 1) (N := some 12) #[Y,Y,Z,Z] rfl rfl (by kernel_rfl) (by decide) (fun K hK => ?_)
   refine goes_ Tryd.func21 (by kernel_rfl) rfl #[] (by rfl) rfl rfl (by (try simp only [mA, mB, mC]); first | done | rfl) ?_
   with_reducible refine (timeboundref08_None.calls  t380 t381 _ A5.out).mono ?_
   rintro e w19 ⟨rfl, hb⟩
   refine ⟨_, rfl, ?_⟩
   have n0_ := aK (blk_below (g := gb373) (o := .cells #[.int .i64 t376, .int .i64 t377] 25 (0, 0)) (by (with_reducible repeat (first | refine bR ?_ | refine bA ?_ _)); exact BK373.out) hb)
   have n1_ := aK (blk_below (g := gb374) (o := .cells #[.int .i64 t378, .int .i64 t379] 25 (0, 0)) (by (with_reducible repeat (first | refine bR ?_ | refine bA ?_ _)); exact BK374.out) hb)
   have n2_ := aK (blk_below (g := gb375) (o := .cells #[.int .i64 0, .int .i64 0] 25 (0, 0)) (by (with_reducible repeat (first | refine bR ?_ | refine bA ?_ _)); exact BK375.out) hb)
   have n3_ := aK (below_step (by repeat (first | (with_reducible first | exact HB.out | apply hA | apply hN | apply hD | refine below_set ?_ GE373.out | refine below_set ?_ GE374.out | refine below_set ?_ GE375.out) | exact HB.out)) hb)
   clear BK373
   clear BK374
   clear BK375
   clear HB
   have BK373 := n0_
   have BK374 := n1_
   have BK375 := n2_
   have HB := n3_
   clear n0_ n1_ n2_ n3_
   (try clear hb)
   (try clear hb2)
   (try clear hk)
   (try clear hi)
   refine hK.out _ _ ⟨(blk_cell BK373.out 0).trans rfl, (blk_cell BK373.out 1).trans rfl⟩ (fun hHeld => ?_)
   clear hK K
   refine norm_ (a' := ?_) ?_ ?_
   rotate_left
   · show Act.put _ (some 12) _ = _
     simp only [Act.put, sA, sB, sC, i64_w, i32_w]
     rfl
   refine pure_ (i := 2) (N := some 13) (v := ?_) (a' := ?_) #[Y,Y,Y,Z] rfl rfl (by kernel_rfl) (fun _ _ _ h => h) (Or.inl ⟨by rfl, ?_⟩) ?_ ?_
   rotate_left
   · intro w'
     go_simp
     with_reducible rfl
   rotate_left
   · simp only [Act.put, sA, sB, sC, i64_w, i32_w]
     rfl
   refine pure_ (i := 3) (N := some 10) (v := ?_) (a' := ?_) #[Y,Y,Y,Y] rfl rfl (by kernel_rfl) (fun _ _ _ h => h) (Or.inl ⟨by rfl, ?_⟩) ?_ ?_
   rotate_left
   · intro w'
     go_simp
     with_reducible rfl
   rotate_left
   · simp only [Act.put, sA, sB, sC, i64_w, i32_w]
     rfl
   refine done_ (by kernel_rfl) ?_
   have hnb20 := NB374_373.out
   have hnc20 := NB373_374.out
   have hnb21 := NB374_375.out
   have hnc21 := NB375_374.out
   have hcz22_0 : w19.cell? ⟨gb374, 0, none⟩ = some (.int .i64 t378) := (blk_cell BK374.out 0).trans rfl
   have hcz22_1 : w19.cell? ⟨gb374, 1, none⟩ = some (.int .i64 t379) := (blk_cell BK374.out 1).trans rfl
   have hfz22_0 := blk_frozen BK374.out 0
   have hfz22_1 := blk_frozen BK374.out 1
   have hnb23 := NB375_373.out
   have hnc23 := NB373_375.out
   have hcz24_0 : w19.cell? ⟨gb375, 0, none⟩ = some (.int .i64 0) := (blk_cell BK375.out 0).trans rfl
   have hcz24_1 : w19.cell? ⟨gb375, 1, none⟩ = some (.int .i64 0) := (blk_cell BK375.out 1).trans rfl
   have hfz24_0 := blk_frozen BK375.out 0
   have hfz24_1 := blk_frozen BK375.out 1
   try go_wp2
   refine bodyPost_ret (results_cell_row rfl _ _ gb375 25 #[.int .i64 t378, .int .i64 t379] (0, 0) _ rfl (by (with_reducible repeat (first | refine bR ?_ | refine bA ?_ _)); refine blk_put (cs := #[.int .i64 t378, .int .i64 0]) ?_ 1 _ rfl; (with_reducible repeat (first | refine bR ?_ | refine bA ?_ _)); refine blk_put (cs := #[.int .i64 0, .int .i64 0]) ?_ 0 _ rfl; (with_reducible repeat (first | refine bR ?_ | refine bA ?_ _)); exact BK375.out) Tryd.underlying25 rfl (by kernel_rfl)) rfl ?_
   exact ⟨by first | rfl | (simp [errW_none, errW_some] <;> rfl) | (simp [*, errW_none, errW_some] <;> rfl), by repeat (first | (with_reducible first | exact HB.out | apply hA | apply hN | apply hD | refine below_set ?_ GE373.out | refine below_set ?_ GE374.out | refine below_set ?_ GE375.out) | exact HB.out)⟩
 · rw [if_neg c6] at H
   have c6b0 : (t376 == t380 && (t377 == t381)) = false := by simpa using c6
   (try (have c6b1 : decide (t376 = t380 && (t377 == t381)) = false := by simpa using c6))
   (try (have c6b2 : (t376 == t380 && (t377 == t381)) = false := by simpa using c6))
   (try (have c6b3 : ¬ (t376 = t380 && (t377 == t381)) := by simpa using c6))
   clear c6
   replace H := Option.bind_eq_some_iff.mp H
   obtain ⟨⟨t382, t383⟩, A250, H⟩ := H
   replace H : (if (t378 == t382 && (t379 == t383)) = true then (some (t376, t377)) else (if (t376 == t378 && (t377 == t379)) = true then (some (t376, t377)) else ((timeboundref08_Bits.f k t376 t377).bind fun t384 => ((timeboundref08_Bits.f k t378 t379).bind fun t385 => (timeboundref08_Join.l0 k (mn (mn t384 t385) 30) t376 t377 t378 t379))))) = some (r1, r2) := H
   have A25 := aK A250
   clear A250
   by_cases c26 : (t378 == t382 && (t379 == t383)) = true
   · rw [if_pos c26] at H
     have c26b0 : (t378 == t382 && (t379 == t383)) = true := c26
     (try (have c26b1 : decide (t378 = t382 && (t379 == t383)) = true := by simpa using c26))
     (try (have c26b2 : (t378 == t382 && (t379 == t383)) = true := by simpa using c26))
     clear c26
     simp only [Option.some.injEq, Prod.mk.injEq] at H
     obtain ⟨rfl, rfl⟩ := H
     go_enter Tryd.func33, Tryd.ntmps33
     try go_wp2_with (first | ((with_reducible refine gate_dst (N := 2) rfl ?_); refine box_event ?hg (N := 2) ?hd (cs := #[.int .i64 a0_0, .int .i64 a0_1]) (t := 25) ?hr ?_; (case hd => rfl); (case hg => rfl); (case hr => first | (go_simp; done) | (go_simp; rfl)); intro gb373 hg w27 hbox hb; have n0_ := aK (below_step (by repeat (first | (with_reducible first | exact HB.out | apply hA | apply hN | apply hD) | exact HB.out)) hb); have n1_ := aK (hbox); have n2_ := aK ((by rw [hg]; exact (below_size (by repeat (first | (with_reducible first | exact HB.out | apply hA | apply hN | apply hD) | exact HB.out))) : w.heap.size ≤ gb373)); have n3_ := aK ((by rw [hg]; exact (below_size (by repeat (first | (with_reducible first | exact HB.out | apply hA | apply hN | apply hD) | exact HB.out))) : w.heap.size ≤ gb373)); clear HB; have HB := n0_; have BK373 := n1_; have GW373 := n2_; have GE373 := n3_; clear n0_ n1_ n2_ n3_; clear hb hbox hg) | ((with_reducible refine gate_dst (N := 3) rfl ?_); refine box_event ?hg (N := 3) ?hd (cs := #[.int .i64 a1_0, .int .i64 a1_1]) (t := 25) ?hr ?_; (case hd => rfl); (case hg => rfl); (case hr => first | (go_simp; done) | (go_simp; rfl)); intro gb374 hg w28 hbox hb; have n0_ := aK (blk_below (g := gb373) (o := .cells #[.int .i64 a0_0, .int .i64 a0_1] 25 (0, 0)) (by (with_reducible repeat (first | refine bR ?_ | refine bA ?_ _)); exact BK373.out) hb); have n1_ := aK (below_step (by repeat (first | (with_reducible first | exact HB.out | apply hA | apply hN | apply hD | refine below_set ?_ GE373.out) | exact HB.out)) hb); have n2_ := aK (hbox); have n3_ := aK ((by rw [hg]; exact (below_size (by repeat (first | (with_reducible first | exact HB.out | apply hA | apply hN | apply hD | refine below_set ?_ GE373.out) | exact HB.out))) : w.heap.size ≤ gb374)); have n4_ := aK ((by rw [hg]; exact (below_size (by repeat (first | (with_reducible first | exact HB.out | apply hA | apply hN | apply hD | refine below_set ?_ GE373.out) | exact HB.out))) : w.heap.size ≤ gb374)); have n5_ := aK ((by rw [hg]; exact Nat.ne_of_lt (blk_lt (g := gb373) (o := .cells #[.int .i64 a0_0, .int .i64 a0_1] 25 (0, 0)) (by (with_reducible repeat (first | refine bR ?_ | refine bA ?_ _)); exact BK373.out)) : gb373 ≠ gb374)); have n6_ := aK ((by rw [hg]; exact Nat.ne_of_gt (blk_lt (g := gb373) (o := .cells #[.int .i64 a0_0, .int .i64 a0_1] 25 (0, 0)) (by (with_reducible repeat (first | refine bR ?_ | refine bA ?_ _)); exact BK373.out)) : gb374 ≠ gb373)); clear BK373; clear HB; have BK373 := n0_; have HB := n1_; have BK374 := n2_; have GW374 := n3_; have GE374 := n4_; have NB373_374 := n5_; have NB374_373 := n6_; clear n0_ n1_ n2_ n3_ n4_ n5_ n6_; clear hb hbox hg) | ((with_reducible refine gate_dst (N := 4) rfl ?_); refine box_event ?hg (N := 4) ?hd (cs := #[.int .i64 0, .int .i64 0]) (t := 25) ?hr ?_; (case hd => rfl); (case hg => rfl); (case hr => first | (go_simp; done) | (go_simp; rfl)); intro gb375 hg w29 hbox hb; have n0_ := aK (blk_below (g := gb373) (o := .cells #[.int .i64 a0_0, .int .i64 a0_1] 25 (0, 0)) (by (with_reducible repeat (first | refine bR ?_ | refine bA ?_ _)); exact BK373.out) hb); have n1_ := aK (blk_below (g := gb374) (o := .cells #[.int .i64 a1_0, .int .i64 a1_1] 25 (0, 0)) (by (with_reducible repeat (first | refine bR ?_ | refine bA ?_ _)); exact BK374.out) hb); have n2_ := aK (below_step (by repeat (first | (with_reducible first | exact HB.out | apply hA | apply hN | apply hD | refine below_set ?_ GE373.out | refine below_set ?_ GE374.out) | exact HB.out)) hb); have n3_ := aK (hbox); have n4_ := aK ((by rw [hg]; exact (below_size (by repeat (first | (with_reducible first | exact HB.out | apply hA | apply hN | apply hD | refine below_set ?_ GE373.out | refine below_set ?_ GE374.out) | exact HB.out))) : w.heap.size ≤ gb375)); have n5_ := aK ((by rw [hg]; exact (below_size (by repeat (first | (with_reducible first | exact HB.out | apply hA | apply hN | apply hD | refine below_set ?_ GE373.out | refine below_set ?_ GE374.out) | exact HB.out))) : w.heap.size ≤ gb375)); have n6_ := aK ((by rw [hg]; exact Nat.ne_of_lt (blk_lt (g := gb373) (o := .cells #[.int .i64 a0_0, .int .i64 a0_1] 25 (0, 0)) (by (with_reducible repeat (first | refine bR ?_ | refine bA ?_ _)); exact BK373.out)) : gb373 ≠ gb375)); have n7_ := aK ((by rw [hg]; exact Nat.ne_of_gt (blk_lt (g := gb373) (o := .cells #[.int .i64 a0_0, .int .i64 a0_1] 25 (0, 0)) (by (with_reducible repeat (first | refine bR ?_ | refine bA ?_ _)); exact BK373.out)) : gb375 ≠ gb373)); have n8_ := aK ((by rw [hg]; exact Nat.ne_of_lt (blk_lt (g := gb374) (o := .cells #[.int .i64 a1_0, .int .i64 a1_1] 25 (0, 0)) (by (with_reducible repeat (first | refine bR ?_ | refine bA ?_ _)); exact BK374.out)) : gb374 ≠ gb375)); have n9_ := aK ((by rw [hg]; exact Nat.ne_of_gt (blk_lt (g := gb374) (o := .cells #[.int .i64 a1_0, .int .i64 a1_1] 25 (0, 0)) (by (with_reducible repeat (first | refine bR ?_ | refine bA ?_ _)); exact BK374.out)) : gb375 ≠ gb374)); clear BK373; clear BK374; clear HB; have BK373 := n0_; have BK374 := n1_; have HB := n2_; have BK375 := n3_; have GW375 := n4_; have GE375 := n5_; have NB373_375 := n6_; have NB375_373 := n7_; have NB374_375 := n8_; have NB375_374 := n9_; clear n0_ n1_ n2_ n3_ n4_ n5_ n6_ n7_ n8_ n9_; clear hb hbox hg))
     have n0_ := aK (blk_drew BK373.out)
     have n1_ := aK (blk_drew BK374.out)
     have n2_ := aK (blk_drew BK375.out)
     have n3_ := aK (below_drew1 HB.out)
     clear BK373
     clear BK374
     clear BK375
     clear HB
     have BK373 := n0_
     have BK374 := n1_
     have BK375 := n2_
     have HB := n3_
     clear n0_ n1_ n2_ n3_
     refine start_ (n := 6) (S := fun w' => w'.cell? ⟨gb373, 0, none⟩ = some (.int .i64 a0_0) ∧ w'.cell? ⟨gb373, 1, none⟩ = some (.int .i64 a0_1) ∧ w'.cell? ⟨gb374, 0, none⟩ = some (.int .i64 a1_0) ∧ w'.cell? ⟨gb374, 1, none⟩ = some (.int .i64 a1_1)) (ds := [4, 5]) #[Z,Z,Z,Z,Z,Z] (by kernel_rfl) rfl rfl ⟨(blk_cell BK373.out 0).trans rfl, (blk_cell BK373.out 1).trans rfl, (blk_cell BK374.out 0).trans rfl, (blk_cell BK374.out 1).trans rfl⟩ (fun hHeld => ?_)
     generalize w29.drew = w30 at BK373 BK374 BK375 HB hHeld ⊢
     refine take_ (i := 0) (N := some 6) (v := ?_) (a' := ?_) #[Y,Z,Z,Z,Z,Z] rfl rfl (by kernel_rfl) (fun _ _ _ h => h) (Or.inl ⟨by rfl, ?_⟩) hHeld ?_ ?_
     rotate_left
     · rintro w' ⟨s0, s1, s2, s3⟩
       go_simp
       with_reducible rfl
     rotate_left
     · simp only [Act.put, sA, sB, sC, i64_w, i32_w]
       rfl
     refine take_ (i := 2) (N := some 8) (v := ?_) (a' := ?_) #[Y,Z,Y,Z,Z,Z] rfl rfl (by kernel_rfl) (fun _ _ _ h => h) (Or.inl ⟨by rfl, ?_⟩) hHeld ?_ ?_
     rotate_left
     · rintro w' ⟨s0, s1, s2, s3⟩
       go_simp
       with_reducible rfl
     rotate_left
     · simp only [Act.put, sA, sB, sC, i64_w, i32_w]
       rfl
     refine one_ (i := 1) (N := some 7) #[Y,Y,Y,Z,Z,Z] rfl rfl (by kernel_rfl) (by decide) (fun K hK => ?_)
     refine goes_ Tryd.func42 (by kernel_rfl) rfl #[.agg #[.int .i64 a0_0, .int .i64 a0_1]] (by rfl) rfl rfl (by (try simp only [mA, mB, mC]); first | done | rfl) ?_
     with_reducible refine (timeboundref08_Form.calls k a0_0 a0_1 t376 t377 _ A3.out).mono ?_
     rintro e w31 ⟨rfl, hb⟩
     refine ⟨_, rfl, ?_⟩
     have n0_ := aK (blk_below (g := gb373) (o := .cells #[.int .i64 a0_0, .int .i64 a0_1] 25 (0, 0)) (by (with_reducible repeat (first | refine bR ?_ | refine bA ?_ _)); exact BK373.out) hb)
     have n1_ := aK (blk_below (g := gb374) (o := .cells #[.int .i64 a1_0, .int .i64 a1_1] 25 (0, 0)) (by (with_reducible repeat (first | refine bR ?_ | refine bA ?_ _)); exact BK374.out) hb)
     have n2_ := aK (blk_below (g := gb375) (o := .cells #[.int .i64 0, .int .i64 0] 25 (0, 0)) (by (with_reducible repeat (first | refine bR ?_ | refine bA ?_ _)); exact BK375.out) hb)
     have n3_ := aK (below_step (by repeat (first | (with_reducible first | exact HB.out | apply hA | apply hN | apply hD | refine below_set ?_ GE373.out | refine below_set ?_ GE374.out | refine below_set ?_ GE375.out) | exact HB.out)) hb)
     clear BK373
     clear BK374
     clear BK375
     clear HB
     have BK373 := n0_
     have BK374 := n1_
     have BK375 := n2_
     have HB := n3_
     clear n0_ n1_ n2_ n3_
     (try clear hb)
     (try clear hb2)
     (try clear hk)
     (try clear hi)
     refine hK.out _ _ ⟨(blk_cell BK373.out 0).trans rfl, (blk_cell BK373.out 1).trans rfl, (blk_cell BK374.out 0).trans rfl, (blk_cell BK374.out 1).trans rfl⟩ (fun hHeld => ?_)
     clear hK K
     refine norm_ (a' := ?_) ?_ ?_
     rotate_left
     · show Act.put _ (some 7) _ = _
       simp only [Act.put, sA, sB, sC, i64_w, i32_w]
       rfl
     refine one_ (i := 3) (N := some 9) #[Y,Y,Y,Y,Z,Z] rfl rfl (by kernel_rfl) (by decide) (fun K hK => ?_)
     refine goes_ Tryd.func42 (by kernel_rfl) rfl #[.agg #[.int .i64 a1_0, .int .i64 a1_1]] (by rfl) rfl rfl (by (try simp only [mA, mB, mC]); first | done | rfl) ?_
     with_reducible refine (timeboundref08_Form.calls k a1_0 a1_1 t378 t379 _ A4.out).mono ?_
     rintro e w32 ⟨rfl, hb⟩
     refine ⟨_, rfl, ?_⟩
     have n0_ := aK (blk_below (g := gb373) (o := .cells #[.int .i64 a0_0, .int .i64 a0_1] 25 (0, 0)) (by (with_reducible repeat (first | refine bR ?_ | refine bA ?_ _)); exact BK373.out) hb)
     have n1_ := aK (blk_below (g := gb374) (o := .cells #[.int .i64 a1_0, .int .i64 a1_1] 25 (0, 0)) (by (with_reducible repeat (first | refine bR ?_ | refine bA ?_ _)); exact BK374.out) hb)
     have n2_ := aK (blk_below (g := gb375) (o := .cells #[.int .i64 0, .int .i64 0] 25 (0, 0)) (by (with_reducible repeat (first | refine bR ?_ | refine bA ?_ _)); exact BK375.out) hb)
     have n3_ := aK (below_step (by repeat (first | (with_reducible first | exact HB.out | apply hA | apply hN | apply hD | refine below_set ?_ GE373.out | refine below_set ?_ GE374.out | refine below_set ?_ GE375.out) | exact HB.out)) hb)
     clear BK373
     clear BK374
     clear BK375
     clear HB
     have BK373 := n0_
     have BK374 := n1_
     have BK375 := n2_
     have HB := n3_
     clear n0_ n1_ n2_ n3_
     (try clear hb)
     (try clear hb2)
     (try clear hk)
     (try clear hi)
     refine hK.out _ _ ⟨(blk_cell BK373.out 0).trans rfl, (blk_cell BK373.out 1).trans rfl, (blk_cell BK374.out 0).trans rfl, (blk_cell BK374.out 1).trans rfl⟩ (fun hHeld => ?_)
     clear hK K
     refine norm_ (a' := ?_) ?_ ?_
     rotate_left
     · show Act.put _ (some 9) _ = _
       simp only [Act.put, sA, sB, sC, i64_w, i32_w]
       rfl
     refine last_ (i := 4) (N := none) #[Y,Y,Y,Y,Y,Z] rfl rfl (by kernel_rfl) (by decide) (fun K hK => ?_)
     have hs33 : w32.cell? ⟨gb373, 0, none⟩ = some (.int .i64 a0_0) := (blk_cell BK373.out 0).trans rfl
     have hfs33 := blk_frozen BK373.out 0
     have hns33_1 := NB374_373.out
     have hns33_2 := NB375_373.out
     have hms33_1 := NB373_374.out
     have hms33_2 := NB373_375.out
     have hs34 : w32.cell? ⟨gb373, 1, none⟩ = some (.int .i64 a0_1) := (blk_cell BK373.out 1).trans rfl
     have hfs34 := blk_frozen BK373.out 1
     have hns34_1 := NB374_373.out
     have hns34_2 := NB375_373.out
     have hms34_1 := NB373_374.out
     have hms34_2 := NB373_375.out
     refine skip_ (w1 := ?_) (by rfl) rfl ?_ ?_
     rotate_left
     · go_simp
       rfl
     refine hK.out _ _ ?_
     clear hK K
     refine last_ (i := 5) (N := none) #[Y,Y,Y,Y,Y,Y] rfl rfl (by kernel_rfl) (by decide) (fun K hK => ?_)
     have hs35 : w32.cell? ⟨gb374, 0, none⟩ = some (.int .i64 a1_0) := (blk_cell BK374.out 0).trans rfl
     have hfs35 := blk_frozen BK374.out 0
     have hns35_0 := NB373_374.out
     have hns35_2 := NB375_374.out
     have hms35_0 := NB374_373.out
     have hms35_2 := NB374_375.out
     have hs36 : w32.cell? ⟨gb374, 1, none⟩ = some (.int .i64 a1_1) := (blk_cell BK374.out 1).trans rfl
     have hfs36 := blk_frozen BK374.out 1
     have hns36_0 := NB373_374.out
     have hns36_2 := NB375_374.out
     have hms36_0 := NB374_373.out
     have hms36_2 := NB374_375.out
     refine skip_ (w1 := ?_) (by rfl) rfl ?_ ?_
     rotate_left
     · go_simp
       rfl
     refine hK.out _ _ ?_
     clear hK K
     refine done_ (by kernel_rfl) ?_
     try go_wp2
     have n0_ : Aside0 (((((w32.setCell ⟨gb373, 0, none⟩ (.int .i64 t376)).setCell ⟨gb373, 1, none⟩ (.int .i64 t377)).setCell ⟨gb374, 0, none⟩ (.int .i64 t378)).setCell ⟨gb374, 1, none⟩ (.int .i64 t379)).heap[gb373]? = some (.cells #[.int .i64 t376, .int .i64 t377] 25 (0, 0))) := ⟨by (with_reducible repeat (first | refine bR ?_ | refine bA ?_ _)); refine blk_far ?_ NB373_374.out _; (with_reducible repeat (first | refine bR ?_ | refine bA ?_ _)); refine blk_far ?_ NB373_374.out _; (with_reducible repeat (first | refine bR ?_ | refine bA ?_ _)); refine blk_put (cs := #[.int .i64 t376, .int .i64 a0_1]) ?_ 1 _ rfl; (with_reducible repeat (first | refine bR ?_ | refine bA ?_ _)); refine blk_put (cs := #[.int .i64 a0_0, .int .i64 a0_1]) ?_ 0 _ rfl; (with_reducible repeat (first | refine bR ?_ | refine bA ?_ _)); exact BK373.out⟩
     have n1_ : Aside0 (((((w32.setCell ⟨gb373, 0, none⟩ (.int .i64 t376)).setCell ⟨gb373, 1, none⟩ (.int .i64 t377)).setCell ⟨gb374, 0, none⟩ (.int .i64 t378)).setCell ⟨gb374, 1, none⟩ (.int .i64 t379)).heap[gb374]? = some (.cells #[.int .i64 t378, .int .i64 t379] 25 (0, 0))) := ⟨by (with_reducible repeat (first | refine bR ?_ | refine bA ?_ _)); refine blk_put (cs := #[.int .i64 t378, .int .i64 a1_1]) ?_ 1 _ rfl; (with_reducible repeat (first | refine bR ?_ | refine bA ?_ _)); refine blk_put (cs := #[.int .i64 a1_0, .int .i64 a1_1]) ?_ 0 _ rfl; (with_reducible repeat (first | refine bR ?_ | refine bA ?_ _)); refine blk_far ?_ NB374_373.out _; (with_reducible repeat (first | refine bR ?_ | refine bA ?_ _)); refine blk_far ?_ NB374_373.out _; (with_reducible repeat (first | refine bR ?_ | refine bA ?_ _)); exact BK374.out⟩
     have n2_ : Aside0 (((((w32.setCell ⟨gb373, 0, none⟩ (.int .i64 t376)).setCell ⟨gb373, 1, none⟩ (.int .i64 t377)).setCell ⟨gb374, 0, none⟩ (.int .i64 t378)).setCell ⟨gb374, 1, none⟩ (.int .i64 t379)).heap[gb375]? = some (.cells #[.int .i64 0, .int .i64 0] 25 (0, 0))) := ⟨by (with_reducible repeat (first | refine bR ?_ | refine bA ?_ _)); refine blk_far ?_ NB375_374.out _; (with_reducible repeat (first | refine bR ?_ | refine bA ?_ _)); refine blk_far ?_ NB375_374.out _; (with_reducible repeat (first | refine bR ?_ | refine bA ?_ _)); refine blk_far ?_ NB375_373.out _; (with_reducible repeat (first | refine bR ?_ | refine bA ?_ _)); refine blk_far ?_ NB375_373.out _; (with_reducible repeat (first | refine bR ?_ | refine bA ?_ _)); exact BK375.out⟩
     have n3_ : Aside0 (Below w.heap.size w ((((w32.setCell ⟨gb373, 0, none⟩ (.int .i64 t376)).setCell ⟨gb373, 1, none⟩ (.int .i64 t377)).setCell ⟨gb374, 0, none⟩ (.int .i64 t378)).setCell ⟨gb374, 1, none⟩ (.int .i64 t379))) := ⟨by repeat (first | (with_reducible first | exact HB.out | apply hA | apply hN | apply hD | refine below_set ?_ GE373.out | refine below_set ?_ GE374.out | refine below_set ?_ GE375.out) | exact HB.out)⟩
     (try clear BK373)
     (try clear BK374)
     (try clear BK375)
     (try clear HB)
     generalize ((((w32.setCell ⟨gb373, 0, none⟩ (.int .i64 t376)).setCell ⟨gb373, 1, none⟩ (.int .i64 t377)).setCell ⟨gb374, 0, none⟩ (.int .i64 t378)).setCell ⟨gb374, 1, none⟩ (.int .i64 t379)) = w37 at n0_ n1_ n2_ n3_ ⊢
     have BK373 := n0_
     have BK374 := n1_
     have BK375 := n2_
     have HB := n3_
     clear n0_ n1_ n2_ n3_
     have n0_ := aK (blk_drew BK373.out)
     have n1_ := aK (blk_drew BK374.out)
     have n2_ := aK (blk_drew BK375.out)
     have n3_ := aK (below_drew1 HB.out)
     clear BK373
     clear BK374
     clear BK375
     clear HB
     have BK373 := n0_
     have BK374 := n1_
     have BK375 := n2_
     have HB := n3_
     clear n0_ n1_ n2_ n3_
     refine start_ (n := 4) (S := fun w' => w'.cell? ⟨gb373, 0, none⟩ = some (.int .i64 t376) ∧ w'.cell? ⟨gb373, 1, none⟩ = some (.int .i64 t377)) (ds := []) #[Z,Z,Z,Z] (by kernel_rfl) rfl rfl ⟨(blk_cell BK373.out 0).trans rfl, (blk_cell BK373.out 1).trans rfl⟩ (fun hHeld => ?_)
     generalize w37.drew = w38 at BK373 BK374 BK375 HB hHeld ⊢
     refine take_ (i := 0) (N := some 11) (v := ?_) (a' := ?_) #[Y,Z,Z,Z] rfl rfl (by kernel_rfl) (fun _ _ _ h => h) (Or.inl ⟨by rfl, ?_⟩) hHeld ?_ ?_
     rotate_left
     · rintro w' ⟨s0, s1⟩
       go_simp
       with_reducible rfl
     rotate_left
     · simp only [Act.put, sA, sB, sC, i64_w, i32_w]
       rfl
     refine one_ (i := 1) (N := some 12) #[Y,Y,Z,Z] rfl rfl (by kernel_rfl) (by decide) (fun K hK => ?_)
     refine goes_ Tryd.func21 (by kernel_rfl) rfl #[] (by rfl) rfl rfl (by (try simp only [mA, mB, mC]); first | done | rfl) ?_
     with_reducible refine (timeboundref08_None.calls  t380 t381 _ A5.out).mono ?_
     rintro e w39 ⟨rfl, hb⟩
     refine ⟨_, rfl, ?_⟩
     have n0_ := aK (blk_below (g := gb373) (o := .cells #[.int .i64 t376, .int .i64 t377] 25 (0, 0)) (by (with_reducible repeat (first | refine bR ?_ | refine bA ?_ _)); exact BK373.out) hb)
     have n1_ := aK (blk_below (g := gb374) (o := .cells #[.int .i64 t378, .int .i64 t379] 25 (0, 0)) (by (with_reducible repeat (first | refine bR ?_ | refine bA ?_ _)); exact BK374.out) hb)
     have n2_ := aK (blk_below (g := gb375) (o := .cells #[.int .i64 0, .int .i64 0] 25 (0, 0)) (by (with_reducible repeat (first | refine bR ?_ | refine bA ?_ _)); exact BK375.out) hb)
     have n3_ := aK (below_step (by repeat (first | (with_reducible first | exact HB.out | apply hA | apply hN | apply hD | refine below_set ?_ GE373.out | refine below_set ?_ GE374.out | refine below_set ?_ GE375.out) | exact HB.out)) hb)
     clear BK373
     clear BK374
     clear BK375
     clear HB
     have BK373 := n0_
     have BK374 := n1_
     have BK375 := n2_
     have HB := n3_
     clear n0_ n1_ n2_ n3_
     (try clear hb)
     (try clear hb2)
     (try clear hk)
     (try clear hi)
     refine hK.out _ _ ⟨(blk_cell BK373.out 0).trans rfl, (blk_cell BK373.out 1).trans rfl⟩ (fun hHeld => ?_)
     clear hK K
     refine norm_ (a' := ?_) ?_ ?_
     rotate_left
     · show Act.put _ (some 12) _ = _
       simp only [Act.put, sA, sB, sC, i64_w, i32_w]
       rfl
     refine pure_ (i := 2) (N := some 13) (v := ?_) (a' := ?_) #[Y,Y,Y,Z] rfl rfl (by kernel_rfl) (fun _ _ _ h => h) (Or.inl ⟨by rfl, ?_⟩) ?_ ?_
     rotate_left
     · intro w'
       go_simp
       with_reducible rfl
     rotate_left
     · simp only [Act.put, sA, sB, sC, i64_w, i32_w]
       rfl
     refine pure_ (i := 3) (N := some 10) (v := ?_) (a' := ?_) #[Y,Y,Y,Y] rfl rfl (by kernel_rfl) (fun _ _ _ h => h) (Or.inl ⟨by rfl, ?_⟩) ?_ ?_
     rotate_left
     · intro w'
       go_simp
       with_reducible rfl
     rotate_left
     · simp only [Act.put, sA, sB, sC, i64_w, i32_w]
       rfl
     refine done_ (by kernel_rfl) ?_
     try go_wp2
     have n0_ := aK (blk_drew BK373.out)
     have n1_ := aK (blk_drew BK374.out)
     have n2_ := aK (blk_drew BK375.out)
     have n3_ := aK (below_drew1 HB.out)
     clear BK373
     clear BK374
     clear BK375
     clear HB
     have BK373 := n0_
     have BK374 := n1_
     have BK375 := n2_
     have HB := n3_
     clear n0_ n1_ n2_ n3_
     refine start_ (n := 9) (S := fun w' => w'.cell? ⟨gb374, 0, none⟩ = some (.int .i64 t378) ∧ w'.cell? ⟨gb374, 1, none⟩ = some (.int .i64 t379)) (ds := []) #[Z,Z,Z,Z,Z,Z,Z,Z,Z] (by kernel_rfl) rfl rfl ⟨(blk_cell BK374.out 0).trans rfl, (blk_cell BK374.out 1).trans rfl⟩ (fun hHeld => ?_); refine with_tabW timeboundref08_Join.tab4 timeboundref08_Join.bits4 (fun HT_ HW_ => ?_)
     generalize w39.drew = w40 at BK373 BK374 BK375 HB hHeld ⊢
     refine take_ (i := 0) (N := some 16) (v := ?_) (a' := ?_) #[Y,Z,Z,Z,Z,Z,Z,Z,Z] rfl rfl (take_ofW HT_.out HW_.out (by kernel_rfl)) (fun _ _ _ h => h) (Or.inl ⟨by rfl, ?_⟩) hHeld ?_ ?_
     rotate_left
     · rintro w' ⟨s0, s1⟩
       go_simp
       with_reducible rfl
     rotate_left
     · simp only [Act.put, sA, sB, sC, i64_w, i32_w]
       rfl
     refine one_ (i := 1) (N := some 17) #[Y,Y,Z,Z,Z,Z,Z,Z,Z] rfl rfl (one_of HT_.out (by kernel_rfl)) (by decide) (fun K hK => ?_)
     refine goes_ Tryd.func21 (by kernel_rfl) rfl #[] (by rfl) rfl rfl (by (try simp only [mA, mB, mC]); first | done | rfl) ?_
     with_reducible refine (timeboundref08_None.calls  t382 t383 _ A25.out).mono ?_
     rintro e w41 ⟨rfl, hb⟩
     refine ⟨_, rfl, ?_⟩
     have n0_ := aK (blk_below (g := gb373) (o := .cells #[.int .i64 t376, .int .i64 t377] 25 (0, 0)) (by (with_reducible repeat (first | refine bR ?_ | refine bA ?_ _)); exact BK373.out) hb)
     have n1_ := aK (blk_below (g := gb374) (o := .cells #[.int .i64 t378, .int .i64 t379] 25 (0, 0)) (by (with_reducible repeat (first | refine bR ?_ | refine bA ?_ _)); exact BK374.out) hb)
     have n2_ := aK (blk_below (g := gb375) (o := .cells #[.int .i64 0, .int .i64 0] 25 (0, 0)) (by (with_reducible repeat (first | refine bR ?_ | refine bA ?_ _)); exact BK375.out) hb)
     have n3_ := aK (below_step (by repeat (first | (with_reducible first | exact HB.out | apply hA | apply hN | apply hD | refine below_set ?_ GE373.out | refine below_set ?_ GE374.out | refine below_set ?_ GE375.out) | exact HB.out)) hb)
     clear BK373
     clear BK374
     clear BK375
     clear HB
     have BK373 := n0_
     have BK374 := n1_
     have BK375 := n2_
     have HB := n3_
     clear n0_ n1_ n2_ n3_
     (try clear hb)
     (try clear hb2)
     (try clear hk)
     (try clear hi)
     refine hK.out _ _ ⟨(blk_cell BK374.out 0).trans rfl, (blk_cell BK374.out 1).trans rfl⟩ (fun hHeld => ?_)
     clear hK K
     refine norm_ (a' := ?_) ?_ ?_
     rotate_left
     · show Act.put _ (some 17) _ = _
       simp only [Act.put, sA, sB, sC, i64_w, i32_w]
       rfl
     refine pure_ (i := 2) (N := some 18) (v := ?_) (a' := ?_) #[Y,Y,Y,Z,Z,Z,Z,Z,Z] rfl rfl (any_of HT_.out (by kernel_rfl)) (fun _ _ _ h => h) (Or.inl ⟨by rfl, ?_⟩) ?_ ?_
     rotate_left
     · intro w'
       go_simp
       with_reducible rfl
     rotate_left
     · simp only [Act.put, sA, sB, sC, i64_w, i32_w]
       rfl
     refine pure_ (i := 3) (N := some 19) (v := ?_) (a' := ?_) #[Y,Y,Y,Y,Z,Z,Z,Z,Z] rfl rfl (any_of HT_.out (by kernel_rfl)) (fun _ _ _ h => h) (Or.inl ⟨by rfl, ?_⟩) ?_ ?_
     rotate_left
     · intro w'
       go_simp
       with_reducible rfl
     rotate_left
     · simp only [Act.put, sA, sB, sC, i64_w, i32_w]
       rfl
     refine pure_ (i := 4) (N := some 20) (v := undef) (a' := ?_) #[Y,Y,Y,Y,Y,Z,Z,Z,Z] rfl rfl (any_of HT_.out (by kernel_rfl)) (fun _ _ _ h => h) (Or.inr ⟨by rfl, rfl⟩) ?_ ?_
     rotate_left
     · simp only [Act.put, sA, sB, sC, i64_w, i32_w]
       rfl
     refine pure_ (i := 5) (N := some 21) (v := undef) (a' := ?_) #[Y,Y,Y,Y,Y,Y,Z,Z,Z] rfl rfl (any_of HT_.out (by kernel_rfl)) (fun _ _ _ h => h) (Or.inr ⟨by rfl, rfl⟩) ?_ ?_
     rotate_left
     · simp only [Act.put, sA, sB, sC, i64_w, i32_w]
       rfl
     refine pure_ (i := 6) (N := some 22) (v := undef) (a' := ?_) #[Y,Y,Y,Y,Y,Y,Y,Z,Z] rfl rfl (any_of HT_.out (by kernel_rfl)) (fun _ _ _ h => h) (Or.inr ⟨by rfl, rfl⟩) ?_ ?_
     rotate_left
     · simp only [Act.put, sA, sB, sC, i64_w, i32_w]
       rfl
     refine pure_ (i := 7) (N := some 23) (v := ?_) (a' := ?_) #[Y,Y,Y,Y,Y,Y,Y,Y,Z] rfl rfl (any_of HT_.out (by kernel_rfl)) (fun _ _ _ h => h) (Or.inl ⟨by rfl, ?_⟩) ?_ ?_
     rotate_left
     · intro w'
       go_simp
       with_reducible rfl
     rotate_left
     · simp only [Act.put, sA, sB, sC, i64_w, i32_w]
       rfl
     refine pure_ (i := 8) (N := some 15) (v := ?_) (a' := ?_) #[Y,Y,Y,Y,Y,Y,Y,Y,Y] rfl rfl (any_of HT_.out (by kernel_rfl)) (fun _ _ _ h => h) (Or.inl ⟨by rfl, ?_⟩) ?_ ?_
     rotate_left
     · intro w'
       go_simp
       with_reducible rfl
     rotate_left
     · simp only [Act.put, sA, sB, sC, i64_w, i32_w]
       rfl
     refine done_ (done_of HT_.out (by kernel_rfl)) ?_
     have hnb42 := NB373_374.out
     have hnc42 := NB374_373.out
     have hnb43 := NB373_375.out
     have hnc43 := NB375_373.out
     have hcz44_0 : w41.cell? ⟨gb373, 0, none⟩ = some (.int .i64 t376) := (blk_cell BK373.out 0).trans rfl
     have hcz44_1 : w41.cell? ⟨gb373, 1, none⟩ = some (.int .i64 t377) := (blk_cell BK373.out 1).trans rfl
     have hfz44_0 := blk_frozen BK373.out 0
     have hfz44_1 := blk_frozen BK373.out 1
     have hnb45 := NB375_374.out
     have hnc45 := NB374_375.out
     have hcz46_0 : w41.cell? ⟨gb375, 0, none⟩ = some (.int .i64 0) := (blk_cell BK375.out 0).trans rfl
     have hcz46_1 : w41.cell? ⟨gb375, 1, none⟩ = some (.int .i64 0) := (blk_cell BK375.out 1).trans rfl
     have hfz46_0 := blk_frozen BK375.out 0
     have hfz46_1 := blk_frozen BK375.out 1
     try go_wp2
     refine bodyPost_ret (results_cell_row rfl _ _ gb375 25 #[.int .i64 t376, .int .i64 t377] (0, 0) _ rfl (by (with_reducible repeat (first | refine bR ?_ | refine bA ?_ _)); refine blk_put (cs := #[.int .i64 t376, .int .i64 0]) ?_ 1 _ rfl; (with_reducible repeat (first | refine bR ?_ | refine bA ?_ _)); refine blk_put (cs := #[.int .i64 0, .int .i64 0]) ?_ 0 _ rfl; (with_reducible repeat (first | refine bR ?_ | refine bA ?_ _)); exact BK375.out) Tryd.underlying25 rfl (by kernel_rfl)) rfl ?_
     exact ⟨by first | rfl | (simp [errW_none, errW_some] <;> rfl) | (simp [*, errW_none, errW_some] <;> rfl), by repeat (first | (with_reducible first | exact HB.out | apply hA | apply hN | apply hD | refine below_set ?_ GE373.out | refine below_set ?_ GE374.out | refine below_set ?_ GE375.out) | exact HB.out)⟩
   · rw [if_neg c26] at H
     have c26b0 : (t378 == t382 && (t379 == t383)) = false := by simpa using c26
     (try (have c26b1 : decide (t378 = t382 && (t379 == t383)) = false := by simpa using c26))
     (try (have c26b2 : (t378 == t382 && (t379 == t383)) = false := by simpa using c26))
     (try (have c26b3 : ¬ (t378 = t382 && (t379 == t383)) := by simpa using c26))
     clear c26
     by_cases c47 : (t376 == t378 && (t377 == t379)) = true
     · rw [if_pos c47] at H
       have c47b0 : (t376 == t378 && (t377 == t379)) = true := c47
       (try (have c47b1 : decide (t376 = t378 && (t377 == t379)) = true := by simpa using c47))
       (try (have c47b2 : (t376 == t378 && (t377 == t379)) = true := by simpa using c47))
       clear c47
       simp only [Option.some.injEq, Prod.mk.injEq] at H
       obtain ⟨rfl, rfl⟩ := H
       go_enter Tryd.func33, Tryd.ntmps33
       try go_wp2_with (first | ((with_reducible refine gate_dst (N := 2) rfl ?_); refine box_event ?hg (N := 2) ?hd (cs := #[.int .i64 a0_0, .int .i64 a0_1]) (t := 25) ?hr ?_; (case hd => rfl); (case hg => rfl); (case hr => first | (go_simp; done) | (go_simp; rfl)); intro gb373 hg w48 hbox hb; have n0_ := aK (below_step (by repeat (first | (with_reducible first | exact HB.out | apply hA | apply hN | apply hD) | exact HB.out)) hb); have n1_ := aK (hbox); have n2_ := aK ((by rw [hg]; exact (below_size (by repeat (first | (with_reducible first | exact HB.out | apply hA | apply hN | apply hD) | exact HB.out))) : w.heap.size ≤ gb373)); have n3_ := aK ((by rw [hg]; exact (below_size (by repeat (first | (with_reducible first | exact HB.out | apply hA | apply hN | apply hD) | exact HB.out))) : w.heap.size ≤ gb373)); clear HB; have HB := n0_; have BK373 := n1_; have GW373 := n2_; have GE373 := n3_; clear n0_ n1_ n2_ n3_; clear hb hbox hg) | ((with_reducible refine gate_dst (N := 3) rfl ?_); refine box_event ?hg (N := 3) ?hd (cs := #[.int .i64 a1_0, .int .i64 a1_1]) (t := 25) ?hr ?_; (case hd => rfl); (case hg => rfl); (case hr => first | (go_simp; done) | (go_simp; rfl)); intro gb374 hg w49 hbox hb; have n0_ := aK (blk_below (g := gb373) (o := .cells #[.int .i64 a0_0, .int .i64 a0_1] 25 (0, 0)) (by (with_reducible repeat (first | refine bR ?_ | refine bA ?_ _)); exact BK373.out) hb); have n1_ := aK (below_step (by repeat (first | (with_reducible first | exact HB.out | apply hA | apply hN | apply hD | refine below_set ?_ GE373.out) | exact HB.out)) hb); have n2_ := aK (hbox); have n3_ := aK ((by rw [hg]; exact (below_size (by repeat (first | (with_reducible first | exact HB.out | apply hA | apply hN | apply hD | refine below_set ?_ GE373.out) | exact HB.out))) : w.heap.size ≤ gb374)); have n4_ := aK ((by rw [hg]; exact (below_size (by repeat (first | (with_reducible first | exact HB.out | apply hA | apply hN | apply hD | refine below_set ?_ GE373.out) | exact HB.out))) : w.heap.size ≤ gb374)); have n5_ := aK ((by rw [hg]; exact Nat.ne_of_lt (blk_lt (g := gb373) (o := .cells #[.int .i64 a0_0, .int .i64 a0_1] 25 (0, 0)) (by (with_reducible repeat (first | refine bR ?_ | refine bA ?_ _)); exact BK373.out)) : gb373 ≠ gb374)); have n6_ := aK ((by rw [hg]; exact Nat.ne_of_gt (blk_lt (g := gb373) (o := .cells #[.int .i64 a0_0, .int .i64 a0_1] 25 (0, 0)) (by (with_reducible repeat (first | refine bR ?_ | refine bA ?_ _)); exact BK373.out)) : gb374 ≠ gb373)); clear BK373; clear HB; have BK373 := n0_; have HB := n1_; have BK374 := n2_; have GW374 := n3_; have GE374 := n4_; have NB373_374 := n5_; have NB374_373 := n6_; clear n0_ n1_ n2_ n3_ n4_ n5_ n6_; clear hb hbox hg) | ((with_reducible refine gate_dst (N := 4) rfl ?_); refine box_event ?hg (N := 4) ?hd (cs := #[.int .i64 0, .int .i64 0]) (t := 25) ?hr ?_; (case hd => rfl); (case hg => rfl); (case hr => first | (go_simp; done) | (go_simp; rfl)); intro gb375 hg w50 hbox hb; have n0_ := aK (blk_below (g := gb373) (o := .cells #[.int .i64 a0_0, .int .i64 a0_1] 25 (0, 0)) (by (with_reducible repeat (first | refine bR ?_ | refine bA ?_ _)); exact BK373.out) hb); have n1_ := aK (blk_below (g := gb374) (o := .cells #[.int .i64 a1_0, .int .i64 a1_1] 25 (0, 0)) (by (with_reducible repeat (first | refine bR ?_ | refine bA ?_ _)); exact BK374.out) hb); have n2_ := aK (below_step (by repeat (first | (with_reducible first | exact HB.out | apply hA | apply hN | apply hD | refine below_set ?_ GE373.out | refine below_set ?_ GE374.out) | exact HB.out)) hb); have n3_ := aK (hbox); have n4_ := aK ((by rw [hg]; exact (below_size (by repeat (first | (with_reducible first | exact HB.out | apply hA | apply hN | apply hD | refine below_set ?_ GE373.out | refine below_set ?_ GE374.out) | exact HB.out))) : w.heap.size ≤ gb375)); have n5_ := aK ((by rw [hg]; exact (below_size (by repeat (first | (with_reducible first | exact HB.out | apply hA | apply hN | apply hD | refine below_set ?_ GE373.out | refine below_set ?_ GE374.out) | exact HB.out))) : w.heap.size ≤ gb375)); have n6_ := aK ((by rw [hg]; exact Nat.ne_of_lt (blk_lt (g := gb373) (o := .cells #[.int .i64 a0_0, .int .i64 a0_1] 25 (0, 0)) (by (with_reducible repeat (first | refine bR ?_ | refine bA ?_ _)); exact BK373.out)) : gb373 ≠ gb375)); have n7_ := aK ((by rw [hg]; exact Nat.ne_of_gt (blk_lt (g := gb373) (o := .cells #[.int .i64 a0_0, .int .i64 a0_1] 25 (0, 0)) (by (with_reducible repeat (first | refine bR ?_ | refine bA ?_ _)); exact BK373.out)) : gb375 ≠ gb373)); have n8_ := aK ((by rw [hg]; exact Nat.ne_of_lt (blk_lt (g := gb374) (o := .cells #[.int .i64 a1_0, .int .i64 a1_1] 25 (0, 0)) (by (with_reducible repeat (first | refine bR ?_ | refine bA ?_ _)); exact BK374.out)) : gb374 ≠ gb375)); have n9_ := aK ((by rw [hg]; exact Nat.ne_of_gt (blk_lt (g := gb374) (o := .cells #[.int .i64 a1_0, .int .i64 a1_1] 25 (0, 0)) (by (with_reducible repeat (first | refine bR ?_ | refine bA ?_ _)); exact BK374.out)) : gb375 ≠ gb374)); clear BK373; clear BK374; clear HB; have BK373 := n0_; have BK374 := n1_; have HB := n2_; have BK375 := n3_; have GW375 := n4_; have GE375 := n5_; have NB373_375 := n6_; have NB375_373 := n7_; have NB374_375 := n8_; have NB375_374 := n9_; clear n0_ n1_ n2_ n3_ n4_ n5_ n6_ n7_ n8_ n9_; clear hb hbox hg))
       have n0_ := aK (blk_drew BK373.out)
       have n1_ := aK (blk_drew BK374.out)
       have n2_ := aK (blk_drew BK375.out)
       have n3_ := aK (below_drew1 HB.out)
       clear BK373
       clear BK374
       clear BK375
       clear HB
       have BK373 := n0_
       have BK374 := n1_
       have BK375 := n2_
       have HB := n3_
       clear n0_ n1_ n2_ n3_
       refine start_ (n := 6) (S := fun w' => w'.cell? ⟨gb373, 0, none⟩ = some (.int .i64 a0_0) ∧ w'.cell? ⟨gb373, 1, none⟩ = some (.int .i64 a0_1) ∧ w'.cell? ⟨gb374, 0, none⟩ = some (.int .i64 a1_0) ∧ w'.cell? ⟨gb374, 1, none⟩ = some (.int .i64 a1_1)) (ds := [4, 5]) #[Z,Z,Z,Z,Z,Z] (by kernel_rfl) rfl rfl ⟨(blk_cell BK373.out 0).trans rfl, (blk_cell BK373.out 1).trans rfl, (blk_cell BK374.out 0).trans rfl, (blk_cell BK374.out 1).trans rfl⟩ (fun hHeld => ?_)
       generalize w50.drew = w51 at BK373 BK374 BK375 HB hHeld ⊢
       refine take_ (i := 0) (N := some 6) (v := ?_) (a' := ?_) #[Y,Z,Z,Z,Z,Z] rfl rfl (by kernel_rfl) (fun _ _ _ h => h) (Or.inl ⟨by rfl, ?_⟩) hHeld ?_ ?_
       rotate_left
       · rintro w' ⟨s0, s1, s2, s3⟩
         go_simp
         with_reducible rfl
       rotate_left
       · simp only [Act.put, sA, sB, sC, i64_w, i32_w]
         rfl
       refine take_ (i := 2) (N := some 8) (v := ?_) (a' := ?_) #[Y,Z,Y,Z,Z,Z] rfl rfl (by kernel_rfl) (fun _ _ _ h => h) (Or.inl ⟨by rfl, ?_⟩) hHeld ?_ ?_
       rotate_left
       · rintro w' ⟨s0, s1, s2, s3⟩
         go_simp
         with_reducible rfl
       rotate_left
       · simp only [Act.put, sA, sB, sC, i64_w, i32_w]
         rfl
       refine one_ (i := 1) (N := some 7) #[Y,Y,Y,Z,Z,Z] rfl rfl (by kernel_rfl) (by decide) (fun K hK => ?_)
       refine goes_ Tryd.func42 (by kernel_rfl) rfl #[.agg #[.int .i64 a0_0, .int .i64 a0_1]] (by rfl) rfl rfl (by (try simp only [mA, mB, mC]); first | done | rfl) ?_
       with_reducible refine (timeboundref08_Form.calls k a0_0 a0_1 t376 t377 _ A3.out).mono ?_
       rintro e w52 ⟨rfl, hb⟩
       refine ⟨_, rfl, ?_⟩
       have n0_ := aK (blk_below (g := gb373) (o := .cells #[.int .i64 a0_0, .int .i64 a0_1] 25 (0, 0)) (by (with_reducible repeat (first | refine bR ?_ | refine bA ?_ _)); exact BK373.out) hb)
       have n1_ := aK (blk_below (g := gb374) (o := .cells #[.int .i64 a1_0, .int .i64 a1_1] 25 (0, 0)) (by (with_reducible repeat (first | refine bR ?_ | refine bA ?_ _)); exact BK374.out) hb)
       have n2_ := aK (blk_below (g := gb375) (o := .cells #[.int .i64 0, .int .i64 0] 25 (0, 0)) (by (with_reducible repeat (first | refine bR ?_ | refine bA ?_ _)); exact BK375.out) hb)
       have n3_ := aK (below_step (by repeat (first | (with_reducible first | exact HB.out | apply hA | apply hN | apply hD | refine below_set ?_ GE373.out | refine below_set ?_ GE374.out | refine below_set ?_ GE375.out) | exact HB.out)) hb)
       clear BK373
       clear BK374
       clear BK375
       clear HB
       have BK373 := n0_
       have BK374 := n1_
       have BK375 := n2_
       have HB := n3_
       clear n0_ n1_ n2_ n3_
       (try clear hb)
       (try clear hb2)
       (try clear hk)
       (try clear hi)
       refine hK.out _ _ ⟨(blk_cell BK373.out 0).trans rfl, (blk_cell BK373.out 1).trans rfl, (blk_cell BK374.out 0).trans rfl, (blk_cell BK374.out 1).trans rfl⟩ (fun hHeld => ?_)
       clear hK K
       refine norm_ (a' := ?_) ?_ ?_
       rotate_left
       · show Act.put _ (some 7) _ = _
         simp only [Act.put, sA, sB, sC, i64_w, i32_w]
         rfl
       refine one_ (i := 3) (N := some 9) #[Y,Y,Y,Y,Z,Z] rfl rfl (by kernel_rfl) (by decide) (fun K hK => ?_)
       refine goes_ Tryd.func42 (by kernel_rfl) rfl #[.agg #[.int .i64 a1_0, .int .i64 a1_1]] (by rfl) rfl rfl (by (try simp only [mA, mB, mC]); first | done | rfl) ?_
       with_reducible refine (timeboundref08_Form.calls k a1_0 a1_1 t378 t379 _ A4.out).mono ?_
       rintro e w53 ⟨rfl, hb⟩
       refine ⟨_, rfl, ?_⟩
       have n0_ := aK (blk_below (g := gb373) (o := .cells #[.int .i64 a0_0, .int .i64 a0_1] 25 (0, 0)) (by (with_reducible repeat (first | refine bR ?_ | refine bA ?_ _)); exact BK373.out) hb)
       have n1_ := aK (blk_below (g := gb374) (o := .cells #[.int .i64 a1_0, .int .i64 a1_1] 25 (0, 0)) (by (with_reducible repeat (first | refine bR ?_ | refine bA ?_ _)); exact BK374.out) hb)
       have n2_ := aK (blk_below (g := gb375) (o := .cells #[.int .i64 0, .int .i64 0] 25 (0, 0)) (by (with_reducible repeat (first | refine bR ?_ | refine bA ?_ _)); exact BK375.out) hb)
       have n3_ := aK (below_step (by repeat (first | (with_reducible first | exact HB.out | apply hA | apply hN | apply hD | refine below_set ?_ GE373.out | refine below_set ?_ GE374.out | refine below_set ?_ GE375.out) | exact HB.out)) hb)
       clear BK373
       clear BK374
       clear BK375
       clear HB
       have BK373 := n0_
       have BK374 := n1_
       have BK375 := n2_
       have HB := n3_
       clear n0_ n1_ n2_ n3_
       (try clear hb)
       (try clear hb2)
       (try clear hk)
       (try clear hi)
       refine hK.out _ _ ⟨(blk_cell BK373.out 0).trans rfl, (blk_cell BK373.out 1).trans rfl, (blk_cell BK374.out 0).trans rfl, (blk_cell BK374.out 1).trans rfl⟩ (fun hHeld => ?_)
       clear hK K
       refine norm_ (a' := ?_) ?_ ?_
       rotate_left
       · show Act.put _ (some 9) _ = _
         simp only [Act.put, sA, sB, sC, i64_w, i32_w]
         rfl
       refine last_ (i := 4) (N := none) #[Y,Y,Y,Y,Y,Z] rfl rfl (by kernel_rfl) (by decide) (fun K hK => ?_)
       have hs54 : w53.cell? ⟨gb373, 0, none⟩ = some (.int .i64 a0_0) := (blk_cell BK373.out 0).trans rfl
       have hfs54 := blk_frozen BK373.out 0
       have hns54_1 := NB374_373.out
       have hns54_2 := NB375_373.out
       have hms54_1 := NB373_374.out
       have hms54_2 := NB373_375.out
       have hs55 : w53.cell? ⟨gb373, 1, none⟩ = some (.int .i64 a0_1) := (blk_cell BK373.out 1).trans rfl
       have hfs55 := blk_frozen BK373.out 1
       have hns55_1 := NB374_373.out
       have hns55_2 := NB375_373.out
       have hms55_1 := NB373_374.out
       have hms55_2 := NB373_375.out
       refine skip_ (w1 := ?_) (by rfl) rfl ?_ ?_
       rotate_left
       · go_simp
         rfl
       refine hK.out _ _ ?_
       clear hK K
       refine last_ (i := 5) (N := none) #[Y,Y,Y,Y,Y,Y] rfl rfl (by kernel_rfl) (by decide) (fun K hK => ?_)
       have hs56 : w53.cell? ⟨gb374, 0, none⟩ = some (.int .i64 a1_0) := (blk_cell BK374.out 0).trans rfl
       have hfs56 := blk_frozen BK374.out 0
       have hns56_0 := NB373_374.out
       have hns56_2 := NB375_374.out
       have hms56_0 := NB374_373.out
       have hms56_2 := NB374_375.out
       have hs57 : w53.cell? ⟨gb374, 1, none⟩ = some (.int .i64 a1_1) := (blk_cell BK374.out 1).trans rfl
       have hfs57 := blk_frozen BK374.out 1
       have hns57_0 := NB373_374.out
       have hns57_2 := NB375_374.out
       have hms57_0 := NB374_373.out
       have hms57_2 := NB374_375.out
       refine skip_ (w1 := ?_) (by rfl) rfl ?_ ?_
       rotate_left
       · go_simp
         rfl
       refine hK.out _ _ ?_
       clear hK K
       refine done_ (by kernel_rfl) ?_
       try go_wp2
       have n0_ : Aside0 (((((w53.setCell ⟨gb373, 0, none⟩ (.int .i64 t376)).setCell ⟨gb373, 1, none⟩ (.int .i64 t377)).setCell ⟨gb374, 0, none⟩ (.int .i64 t378)).setCell ⟨gb374, 1, none⟩ (.int .i64 t379)).heap[gb373]? = some (.cells #[.int .i64 t376, .int .i64 t377] 25 (0, 0))) := ⟨by (with_reducible repeat (first | refine bR ?_ | refine bA ?_ _)); refine blk_far ?_ NB373_374.out _; (with_reducible repeat (first | refine bR ?_ | refine bA ?_ _)); refine blk_far ?_ NB373_374.out _; (with_reducible repeat (first | refine bR ?_ | refine bA ?_ _)); refine blk_put (cs := #[.int .i64 t376, .int .i64 a0_1]) ?_ 1 _ rfl; (with_reducible repeat (first | refine bR ?_ | refine bA ?_ _)); refine blk_put (cs := #[.int .i64 a0_0, .int .i64 a0_1]) ?_ 0 _ rfl; (with_reducible repeat (first | refine bR ?_ | refine bA ?_ _)); exact BK373.out⟩
       have n1_ : Aside0 (((((w53.setCell ⟨gb373, 0, none⟩ (.int .i64 t376)).setCell ⟨gb373, 1, none⟩ (.int .i64 t377)).setCell ⟨gb374, 0, none⟩ (.int .i64 t378)).setCell ⟨gb374, 1, none⟩ (.int .i64 t379)).heap[gb374]? = some (.cells #[.int .i64 t378, .int .i64 t379] 25 (0, 0))) := ⟨by (with_reducible repeat (first | refine bR ?_ | refine bA ?_ _)); refine blk_put (cs := #[.int .i64 t378, .int .i64 a1_1]) ?_ 1 _ rfl; (with_reducible repeat (first | refine bR ?_ | refine bA ?_ _)); refine blk_put (cs := #[.int .i64 a1_0, .int .i64 a1_1]) ?_ 0 _ rfl; (with_reducible repeat (first | refine bR ?_ | refine bA ?_ _)); refine blk_far ?_ NB374_373.out _; (with_reducible repeat (first | refine bR ?_ | refine bA ?_ _)); refine blk_far ?_ NB374_373.out _; (with_reducible repeat (first | refine bR ?_ | refine bA ?_ _)); exact BK374.out⟩
       have n2_ : Aside0 (((((w53.setCell ⟨gb373, 0, none⟩ (.int .i64 t376)).setCell ⟨gb373, 1, none⟩ (.int .i64 t377)).setCell ⟨gb374, 0, none⟩ (.int .i64 t378)).setCell ⟨gb374, 1, none⟩ (.int .i64 t379)).heap[gb375]? = some (.cells #[.int .i64 0, .int .i64 0] 25 (0, 0))) := ⟨by (with_reducible repeat (first | refine bR ?_ | refine bA ?_ _)); refine blk_far ?_ NB375_374.out _; (with_reducible repeat (first | refine bR ?_ | refine bA ?_ _)); refine blk_far ?_ NB375_374.out _; (with_reducible repeat (first | refine bR ?_ | refine bA ?_ _)); refine blk_far ?_ NB375_373.out _; (with_reducible repeat (first | refine bR ?_ | refine bA ?_ _)); refine blk_far ?_ NB375_373.out _; (with_reducible repeat (first | refine bR ?_ | refine bA ?_ _)); exact BK375.out⟩
       have n3_ : Aside0 (Below w.heap.size w ((((w53.setCell ⟨gb373, 0, none⟩ (.int .i64 t376)).setCell ⟨gb373, 1, none⟩ (.int .i64 t377)).setCell ⟨gb374, 0, none⟩ (.int .i64 t378)).setCell ⟨gb374, 1, none⟩ (.int .i64 t379))) := ⟨by repeat (first | (with_reducible first | exact HB.out | apply hA | apply hN | apply hD | refine below_set ?_ GE373.out | refine below_set ?_ GE374.out | refine below_set ?_ GE375.out) | exact HB.out)⟩
       (try clear BK373)
       (try clear BK374)
       (try clear BK375)
       (try clear HB)
       generalize ((((w53.setCell ⟨gb373, 0, none⟩ (.int .i64 t376)).setCell ⟨gb373, 1, none⟩ (.int .i64 t377)).setCell ⟨gb374, 0, none⟩ (.int .i64 t378)).setCell ⟨gb374, 1, none⟩ (.int .i64 t379)) = w58 at n0_ n1_ n2_ n3_ ⊢
       have BK373 := n0_
       have BK374 := n1_
       have BK375 := n2_
       have HB := n3_
       clear n0_ n1_ n2_ n3_
       have n0_ := aK (blk_drew BK373.out)
       have n1_ := aK (blk_drew BK374.out)
       have n2_ := aK (blk_drew BK375.out)
       have n3_ := aK (below_drew1 HB.out)
       clear BK373
       clear BK374
       clear BK375
       clear HB
       have BK373 := n0_
       have BK374 := n1_
       have BK375 := n2_
       have HB := n3_
       clear n0_ n1_ n2_ n3_
       refine start_ (n := 4) (S := fun w' => w'.cell? ⟨gb373, 0, none⟩ = some (.int .i64 t376) ∧ w'.cell? ⟨gb373, 1, none⟩ = some (.int .i64 t377)) (ds := []) #[Z,Z,Z,Z] (by kernel_rfl) rfl rfl ⟨(blk_cell BK373.out 0).trans rfl, (blk_cell BK373.out 1).trans rfl⟩ (fun hHeld => ?_)
       generalize w58.drew = w59 at BK373 BK374 BK375 HB hHeld ⊢
       refine take_ (i := 0) (N := some 11) (v := ?_) (a' := ?_) #[Y,Z,Z,Z] rfl rfl (by kernel_rfl) (fun _ _ _ h => h) (Or.inl ⟨by rfl, ?_⟩) hHeld ?_ ?_
       rotate_left
       · rintro w' ⟨s0, s1⟩
         go_simp
         with_reducible rfl
       rotate_left
       · simp only [Act.put, sA, sB, sC, i64_w, i32_w]
         rfl
       refine one_ (i := 1) (N := some 12) #[Y,Y,Z,Z] rfl rfl (by kernel_rfl) (by decide) (fun K hK => ?_)
       refine goes_ Tryd.func21 (by kernel_rfl) rfl #[] (by rfl) rfl rfl (by (try simp only [mA, mB, mC]); first | done | rfl) ?_
       with_reducible refine (timeboundref08_None.calls  t380 t381 _ A5.out).mono ?_
       rintro e w60 ⟨rfl, hb⟩
       refine ⟨_, rfl, ?_⟩
       have n0_ := aK (blk_below (g := gb373) (o := .cells #[.int .i64 t376, .int .i64 t377] 25 (0, 0)) (by (with_reducible repeat (first | refine bR ?_ | refine bA ?_ _)); exact BK373.out) hb)
       have n1_ := aK (blk_below (g := gb374) (o := .cells #[.int .i64 t378, .int .i64 t379] 25 (0, 0)) (by (with_reducible repeat (first | refine bR ?_ | refine bA ?_ _)); exact BK374.out) hb)
       have n2_ := aK (blk_below (g := gb375) (o := .cells #[.int .i64 0, .int .i64 0] 25 (0, 0)) (by (with_reducible repeat (first | refine bR ?_ | refine bA ?_ _)); exact BK375.out) hb)
       have n3_ := aK (below_step (by repeat (first | (with_reducible first | exact HB.out | apply hA | apply hN | apply hD | refine below_set ?_ GE373.out | refine below_set ?_ GE374.out | refine below_set ?_ GE375.out) | exact HB.out)) hb)
       clear BK373
       clear BK374
       clear BK375
       clear HB
       have BK373 := n0_
       have BK374 := n1_
       have BK375 := n2_
       have HB := n3_
       clear n0_ n1_ n2_ n3_
       (try clear hb)
       (try clear hb2)
       (try clear hk)
       (try clear hi)
       refine hK.out _ _ ⟨(blk_cell BK373.out 0).trans rfl, (blk_cell BK373.out 1).trans rfl⟩ (fun hHeld => ?_)
       clear hK K
       refine norm_ (a' := ?_) ?_ ?_
       rotate_left
       · show Act.put _ (some 12) _ = _
         simp only [Act.put, sA, sB, sC, i64_w, i32_w]
         rfl
       refine pure_ (i := 2) (N := some 13) (v := ?_) (a' := ?_) #[Y,Y,Y,Z] rfl rfl (by kernel_rfl) (fun _ _ _ h => h) (Or.inl ⟨by rfl, ?_⟩) ?_ ?_
       rotate_left
       · intro w'
         go_simp
         with_reducible rfl
       rotate_left
       · simp only [Act.put, sA, sB, sC, i64_w, i32_w]
         rfl
       refine pure_ (i := 3) (N := some 10) (v := ?_) (a' := ?_) #[Y,Y,Y,Y] rfl rfl (by kernel_rfl) (fun _ _ _ h => h) (Or.inl ⟨by rfl, ?_⟩) ?_ ?_
       rotate_left
       · intro w'
         go_simp
         with_reducible rfl
       rotate_left
       · simp only [Act.put, sA, sB, sC, i64_w, i32_w]
         rfl
       refine done_ (by kernel_rfl) ?_
       try go_wp2
       have n0_ := aK (blk_drew BK373.out)
       have n1_ := aK (blk_drew BK374.out)
       have n2_ := aK (blk_drew BK375.out)
       have n3_ := aK (below_drew1 HB.out)
       clear BK373
       clear BK374
       clear BK375
       clear HB
       have BK373 := n0_
       have BK374 := n1_
       have BK375 := n2_
       have HB := n3_
       clear n0_ n1_ n2_ n3_
       refine start_ (n := 9) (S := fun w' => w'.cell? ⟨gb374, 0, none⟩ = some (.int .i64 t378) ∧ w'.cell? ⟨gb374, 1, none⟩ = some (.int .i64 t379) ∧ w'.cell? ⟨gb373, 0, none⟩ = some (.int .i64 t376) ∧ w'.cell? ⟨gb373, 1, none⟩ = some (.int .i64 t377)) (ds := []) #[Z,Z,Z,Z,Z,Z,Z,Z,Z] (by kernel_rfl) rfl rfl ⟨(blk_cell BK374.out 0).trans rfl, (blk_cell BK374.out 1).trans rfl, (blk_cell BK373.out 0).trans rfl, (blk_cell BK373.out 1).trans rfl⟩ (fun hHeld => ?_); refine with_tabW timeboundref08_Join.tab4 timeboundref08_Join.bits4 (fun HT_ HW_ => ?_)
       generalize w60.drew = w61 at BK373 BK374 BK375 HB hHeld ⊢
       refine take_ (i := 0) (N := some 16) (v := ?_) (a' := ?_) #[Y,Z,Z,Z,Z,Z,Z,Z,Z] rfl rfl (take_ofW HT_.out HW_.out (by kernel_rfl)) (fun _ _ _ h => h) (Or.inl ⟨by rfl, ?_⟩) hHeld ?_ ?_
       rotate_left
       · rintro w' ⟨s0, s1, s2, s3⟩
         go_simp
         with_reducible rfl
       rotate_left
       · simp only [Act.put, sA, sB, sC, i64_w, i32_w]
         rfl
       refine one_ (i := 1) (N := some 17) #[Y,Y,Z,Z,Z,Z,Z,Z,Z] rfl rfl (one_of HT_.out (by kernel_rfl)) (by decide) (fun K hK => ?_)
       refine goes_ Tryd.func21 (by kernel_rfl) rfl #[] (by rfl) rfl rfl (by (try simp only [mA, mB, mC]); first | done | rfl) ?_
       with_reducible refine (timeboundref08_None.calls  t382 t383 _ A25.out).mono ?_
       rintro e w62 ⟨rfl, hb⟩
       refine ⟨_, rfl, ?_⟩
       have n0_ := aK (blk_below (g := gb373) (o := .cells #[.int .i64 t376, .int .i64 t377] 25 (0, 0)) (by (with_reducible repeat (first | refine bR ?_ | refine bA ?_ _)); exact BK373.out) hb)
       have n1_ := aK (blk_below (g := gb374) (o := .cells #[.int .i64 t378, .int .i64 t379] 25 (0, 0)) (by (with_reducible repeat (first | refine bR ?_ | refine bA ?_ _)); exact BK374.out) hb)
       have n2_ := aK (blk_below (g := gb375) (o := .cells #[.int .i64 0, .int .i64 0] 25 (0, 0)) (by (with_reducible repeat (first | refine bR ?_ | refine bA ?_ _)); exact BK375.out) hb)
       have n3_ := aK (below_step (by repeat (first | (with_reducible first | exact HB.out | apply hA | apply hN | apply hD | refine below_set ?_ GE373.out | refine below_set ?_ GE374.out | refine below_set ?_ GE375.out) | exact HB.out)) hb)
       clear BK373
       clear BK374
       clear BK375
       clear HB
       have BK373 := n0_
       have BK374 := n1_
       have BK375 := n2_
       have HB := n3_
       clear n0_ n1_ n2_ n3_
       (try clear hb)
       (try clear hb2)
       (try clear hk)
       (try clear hi)
       refine hK.out _ _ ⟨(blk_cell BK374.out 0).trans rfl, (blk_cell BK374.out 1).trans rfl, (blk_cell BK373.out 0).trans rfl, (blk_cell BK373.out 1).trans rfl⟩ (fun hHeld => ?_)
       clear hK K
       refine norm_ (a' := ?_) ?_ ?_
       rotate_left
       · show Act.put _ (some 17) _ = _
         simp only [Act.put, sA, sB, sC, i64_w, i32_w]
         rfl
       refine pure_ (i := 2) (N := some 18) (v := ?_) (a' := ?_) #[Y,Y,Y,Z,Z,Z,Z,Z,Z] rfl rfl (any_of HT_.out (by kernel_rfl)) (fun _ _ _ h => h) (Or.inl ⟨by rfl, ?_⟩) ?_ ?_
       rotate_left
       · intro w'
         go_simp
         with_reducible rfl
       rotate_left
       · simp only [Act.put, sA, sB, sC, i64_w, i32_w]
         rfl
       refine pure_ (i := 3) (N := some 19) (v := ?_) (a' := ?_) #[Y,Y,Y,Y,Z,Z,Z,Z,Z] rfl rfl (any_of HT_.out (by kernel_rfl)) (fun _ _ _ h => h) (Or.inl ⟨by rfl, ?_⟩) ?_ ?_
       rotate_left
       · intro w'
         go_simp
         with_reducible rfl
       rotate_left
       · simp only [Act.put, sA, sB, sC, i64_w, i32_w]
         rfl
       refine take_ (i := 4) (N := some 20) (v := ?_) (a' := ?_) #[Y,Y,Y,Y,Y,Z,Z,Z,Z] rfl rfl (take_ofW HT_.out HW_.out (by kernel_rfl)) (fun _ _ _ h => h) (Or.inl ⟨by rfl, ?_⟩) hHeld ?_ ?_
       rotate_left
       · rintro w' ⟨s0, s1, s2, s3⟩
         go_simp
         with_reducible rfl
       rotate_left
       · simp only [Act.put, sA, sB, sC, i64_w, i32_w]
         rfl
       refine take_ (i := 5) (N := some 21) (v := ?_) (a' := ?_) #[Y,Y,Y,Y,Y,Y,Z,Z,Z] rfl rfl (take_ofW HT_.out HW_.out (by kernel_rfl)) (fun _ _ _ h => h) (Or.inl ⟨by rfl, ?_⟩) hHeld ?_ ?_
       rotate_left
       · rintro w' ⟨s0, s1, s2, s3⟩
         go_simp
         with_reducible rfl
       rotate_left
       · simp only [Act.put, sA, sB, sC, i64_w, i32_w]
         rfl
       refine pure_ (i := 6) (N := some 22) (v := ?_) (a' := ?_) #[Y,Y,Y,Y,Y,Y,Y,Z,Z] rfl rfl (any_of HT_.out (by kernel_rfl)) (fun _ _ _ h => h) (Or.inl ⟨by rfl, ?_⟩) ?_ ?_
       rotate_left
       · intro w'
         go_simp
         with_reducible rfl
       rotate_left
       · simp only [Act.put, sA, sB, sC, i64_w, i32_w]
         rfl
       refine pure_ (i := 7) (N := some 23) (v := ?_) (a' := ?_) #[Y,Y,Y,Y,Y,Y,Y,Y,Z] rfl rfl (any_of HT_.out (by kernel_rfl)) (fun _ _ _ h => h) (Or.inl ⟨by rfl, ?_⟩) ?_ ?_
       rotate_left
       · intro w'
         go_simp
         with_reducible rfl
       rotate_left
       · simp only [Act.put, sA, sB, sC, i64_w, i32_w]
         rfl
       refine pure_ (i := 8) (N := some 15) (v := ?_) (a' := ?_) #[Y,Y,Y,Y,Y,Y,Y,Y,Y] rfl rfl (any_of HT_.out (by kernel_rfl)) (fun _ _ _ h => h) (Or.inl ⟨by rfl, ?_⟩) ?_ ?_
       rotate_left
       · intro w'
         go_simp
         with_reducible rfl
       rotate_left
       · simp only [Act.put, sA, sB, sC, i64_w, i32_w]
         rfl
       refine done_ (done_of HT_.out (by kernel_rfl)) ?_
       have hnb63 := NB373_374.out
       have hnc63 := NB374_373.out
       have hnb64 := NB373_375.out
       have hnc64 := NB375_373.out
       have hcz65_0 : w62.cell? ⟨gb373, 0, none⟩ = some (.int .i64 t376) := (blk_cell BK373.out 0).trans rfl
       have hcz65_1 : w62.cell? ⟨gb373, 1, none⟩ = some (.int .i64 t377) := (blk_cell BK373.out 1).trans rfl
       have hfz65_0 := blk_frozen BK373.out 0
       have hfz65_1 := blk_frozen BK373.out 1
       have hnb66 := NB375_374.out
       have hnc66 := NB374_375.out
       have hcz67_0 : w62.cell? ⟨gb375, 0, none⟩ = some (.int .i64 0) := (blk_cell BK375.out 0).trans rfl
       have hcz67_1 : w62.cell? ⟨gb375, 1, none⟩ = some (.int .i64 0) := (blk_cell BK375.out 1).trans rfl
       have hfz67_0 := blk_frozen BK375.out 0
       have hfz67_1 := blk_frozen BK375.out 1
       try go_wp2
       refine bodyPost_ret (results_cell_row rfl _ _ gb375 25 #[.int .i64 t376, .int .i64 t377] (0, 0) _ rfl (by (with_reducible repeat (first | refine bR ?_ | refine bA ?_ _)); refine blk_put (cs := #[.int .i64 t376, .int .i64 0]) ?_ 1 _ rfl; (with_reducible repeat (first | refine bR ?_ | refine bA ?_ _)); refine blk_put (cs := #[.int .i64 0, .int .i64 0]) ?_ 0 _ rfl; (with_reducible repeat (first | refine bR ?_ | refine bA ?_ _)); exact BK375.out) Tryd.underlying25 rfl (by kernel_rfl)) rfl ?_
       exact ⟨by first | rfl | (simp [errW_none, errW_some] <;> rfl) | (simp [*, errW_none, errW_some] <;> rfl), by repeat (first | (with_reducible first | exact HB.out | apply hA | apply hN | apply hD | refine below_set ?_ GE373.out | refine below_set ?_ GE374.out | refine below_set ?_ GE375.out) | exact HB.out)⟩
     · rw [if_neg c47] at H
       have c47b0 : (t376 == t378 && (t377 == t379)) = false := by simpa using c47
       (try (have c47b1 : decide (t376 = t378 && (t377 == t379)) = false := by simpa using c47))
       (try (have c47b2 : (t376 == t378 && (t377 == t379)) = false := by simpa using c47))
       (try (have c47b3 : ¬ (t376 = t378 && (t377 == t379)) := by simpa using c47))
       clear c47
       replace H := Option.bind_eq_some_iff.mp H
       obtain ⟨t384, A680, H⟩ := H
       replace H : ((timeboundref08_Bits.f k t378 t379).bind fun t385 => (timeboundref08_Join.l0 k (mn (mn t384 t385) 30) t376 t377 t378 t379)) = some (r1, r2) := H
       have A68 := aK A680
       clear A680
       replace H := Option.bind_eq_some_iff.mp H
       obtain ⟨t385, A690, H⟩ := H
       replace H : (timeboundref08_Join.l0 k (mn (mn t384 t385) 30) t376 t377 t378 t379) = some (r1, r2) := H
       have A69 := aK A690
       clear A690
       obtain ⟨ji70, hji70⟩ : ∃ j_ : Int, (mn t384 t385) = j_ := ⟨_, rfl⟩
       replace H : (timeboundref08_Join.l0 k (mn (ji70) 30) t376 t377 t378 t379) = some (r1, r2) := by first | (rw [hji70] at H; exact H) | (simp only [hji70] at H ⊢; exact H)
       (try rw [hji70] at A3)
       (try rw [hji70] at A4)
       (try rw [hji70] at A5)
       (try rw [hji70] at A25)
       (try rw [hji70] at A68)
       (try rw [hji70] at A69)
       have hji70_ : (if t385 < t384 then t385 else t384) = ji70 := hji70
       obtain ⟨ji71, hji71⟩ : ∃ j_ : Int, (mn (ji70) 30) = j_ := ⟨_, rfl⟩
       replace H : (timeboundref08_Join.l0 k ji71 t376 t377 t378 t379) = some (r1, r2) := by first | (rw [hji71] at H; exact H) | (simp only [hji71] at H ⊢; exact H)
       (try rw [hji71] at A3)
       (try rw [hji71] at A4)
       (try rw [hji71] at A5)
       (try rw [hji71] at A25)
       (try rw [hji71] at A68)
       (try rw [hji71] at A69)
       have hji71_ : (if 30 < (ji70) then 30 else (ji70)) = ji71 := hji71
       have H' := aK H
       clear H
       go_enter Tryd.func33, Tryd.ntmps33
       try go_wp2_with (first | ((with_reducible refine gate_dst (N := 2) rfl ?_); refine box_event ?hg (N := 2) ?hd (cs := #[.int .i64 a0_0, .int .i64 a0_1]) (t := 25) ?hr ?_; (case hd => rfl); (case hg => rfl); (case hr => first | (go_simp; done) | (go_simp; rfl)); intro gb373 hg w72 hbox hb; have n0_ := aK (below_step (by repeat (first | (with_reducible first | exact HB.out | apply hA | apply hN | apply hD) | exact HB.out)) hb); have n1_ := aK (hbox); have n2_ := aK ((by rw [hg]; exact (below_size (by repeat (first | (with_reducible first | exact HB.out | apply hA | apply hN | apply hD) | exact HB.out))) : w.heap.size ≤ gb373)); have n3_ := aK ((by rw [hg]; exact (below_size (by repeat (first | (with_reducible first | exact HB.out | apply hA | apply hN | apply hD) | exact HB.out))) : w.heap.size ≤ gb373)); clear HB; have HB := n0_; have BK373 := n1_; have GW373 := n2_; have GE373 := n3_; clear n0_ n1_ n2_ n3_; clear hb hbox hg) | ((with_reducible refine gate_dst (N := 3) rfl ?_); refine box_event ?hg (N := 3) ?hd (cs := #[.int .i64 a1_0, .int .i64 a1_1]) (t := 25) ?hr ?_; (case hd => rfl); (case hg => rfl); (case hr => first | (go_simp; done) | (go_simp; rfl)); intro gb374 hg w73 hbox hb; have n0_ := aK (blk_below (g := gb373) (o := .cells #[.int .i64 a0_0, .int .i64 a0_1] 25 (0, 0)) (by (with_reducible repeat (first | refine bR ?_ | refine bA ?_ _)); exact BK373.out) hb); have n1_ := aK (below_step (by repeat (first | (with_reducible first | exact HB.out | apply hA | apply hN | apply hD | refine below_set ?_ GE373.out) | exact HB.out)) hb); have n2_ := aK (hbox); have n3_ := aK ((by rw [hg]; exact (below_size (by repeat (first | (with_reducible first | exact HB.out | apply hA | apply hN | apply hD | refine below_set ?_ GE373.out) | exact HB.out))) : w.heap.size ≤ gb374)); have n4_ := aK ((by rw [hg]; exact (below_size (by repeat (first | (with_reducible first | exact HB.out | apply hA | apply hN | apply hD | refine below_set ?_ GE373.out) | exact HB.out))) : w.heap.size ≤ gb374)); have n5_ := aK ((by rw [hg]; exact Nat.ne_of_lt (blk_lt (g := gb373) (o := .cells #[.int .i64 a0_0, .int .i64 a0_1] 25 (0, 0)) (by (with_reducible repeat (first | refine bR ?_ | refine bA ?_ _)); exact BK373.out)) : gb373 ≠ gb374)); have n6_ := aK ((by rw [hg]; exact Nat.ne_of_gt (blk_lt (g := gb373) (o := .cells #[.int .i64 a0_0, .int .i64 a0_1] 25 (0, 0)) (by (with_reducible repeat (first | refine bR ?_ | refine bA ?_ _)); exact BK373.out)) : gb374 ≠ gb373)); clear BK373; clear HB; have BK373 := n0_; have HB := n1_; have BK374 := n2_; have GW374 := n3_; have GE374 := n4_; have NB373_374 := n5_; have NB374_373 := n6_; clear n0_ n1_ n2_ n3_ n4_ n5_ n6_; clear hb hbox hg) | ((with_reducible refine gate_dst (N := 4) rfl ?_); refine box_event ?hg (N := 4) ?hd (cs := #[.int .i64 0, .int .i64 0]) (t := 25) ?hr ?_; (case hd => rfl); (case hg => rfl); (case hr => first | (go_simp; done) | (go_simp; rfl)); intro gb375 hg w74 hbox hb; have n0_ := aK (blk_below (g := gb373) (o := .cells #[.int .i64 a0_0, .int .i64 a0_1] 25 (0, 0)) (by (with_reducible repeat (first | refine bR ?_ | refine bA ?_ _)); exact BK373.out) hb); have n1_ := aK (blk_below (g := gb374) (o := .cells #[.int .i64 a1_0, .int .i64 a1_1] 25 (0, 0)) (by (with_reducible repeat (first | refine bR ?_ | refine bA ?_ _)); exact BK374.out) hb); have n2_ := aK (below_step (by repeat (first | (with_reducible first | exact HB.out | apply hA | apply hN | apply hD | refine below_set ?_ GE373.out | refine below_set ?_ GE374.out) | exact HB.out)) hb); have n3_ := aK (hbox); have n4_ := aK ((by rw [hg]; exact (below_size (by repeat (first | (with_reducible first | exact HB.out | apply hA | apply hN | apply hD | refine below_set ?_ GE373.out | refine below_set ?_ GE374.out) | exact HB.out))) : w.heap.size ≤ gb375)); have n5_ := aK ((by rw [hg]; exact (below_size (by repeat (first | (with_reducible first | exact HB.out | apply hA | apply hN | apply hD | refine below_set ?_ GE373.out | refine below_set ?_ GE374.out) | exact HB.out))) : w.heap.size ≤ gb375)); have n6_ := aK ((by rw [hg]; exact Nat.ne_of_lt (blk_lt (g := gb373) (o := .cells #[.int .i64 a0_0, .int .i64 a0_1] 25 (0, 0)) (by (with_reducible repeat (first | refine bR ?_ | refine bA ?_ _)); exact BK373.out)) : gb373 ≠ gb375)); have n7_ := aK ((by rw [hg]; exact Nat.ne_of_gt (blk_lt (g := gb373) (o := .cells #[.int .i64 a0_0, .int .i64 a0_1] 25 (0, 0)) (by (with_reducible repeat (first | refine bR ?_ | refine bA ?_ _)); exact BK373.out)) : gb375 ≠ gb373)); have n8_ := aK ((by rw [hg]; exact Nat.ne_of_lt (blk_lt (g := gb374) (o := .cells #[.int .i64 a1_0, .int .i64 a1_1] 25 (0, 0)) (by (with_reducible repeat (first | refine bR ?_ | refine bA ?_ _)); exact BK374.out)) : gb374 ≠ gb375)); have n9_ := aK ((by rw [hg]; exact Nat.ne_of_gt (blk_lt (g := gb374) (o := .cells #[.int .i64 a1_0, .int .i64 a1_1] 25 (0, 0)) (by (with_reducible repeat (first | refine bR ?_ | refine bA ?_ _)); exact BK374.out)) : gb375 ≠ gb374)); clear BK373; clear BK374; clear HB; have BK373 := n0_; have BK374 := n1_; have HB := n2_; have BK375 := n3_; have GW375 := n4_; have GE375 := n5_; have NB373_375 := n6_; have NB375_373 := n7_; have NB374_375 := n8_; have NB375_374 := n9_; clear n0_ n1_ n2_ n3_ n4_ n5_ n6_ n7_ n8_ n9_; clear hb hbox hg))
       have n0_ := aK (blk_drew BK373.out)
       have n1_ := aK (blk_drew BK374.out)
       have n2_ := aK (blk_drew BK375.out)
       have n3_ := aK (below_drew1 HB.out)
       clear BK373
       clear BK374
       clear BK375
       clear HB
       have BK373 := n0_
       have BK374 := n1_
       have BK375 := n2_
       have HB := n3_
       clear n0_ n1_ n2_ n3_
       refine start_ (n := 6) (S := fun w' => w'.cell? ⟨gb373, 0, none⟩ = some (.int .i64 a0_0) ∧ w'.cell? ⟨gb373, 1, none⟩ = some (.int .i64 a0_1) ∧ w'.cell? ⟨gb374, 0, none⟩ = some (.int .i64 a1_0) ∧ w'.cell? ⟨gb374, 1, none⟩ = some (.int .i64 a1_1)) (ds := [4, 5]) #[Z,Z,Z,Z,Z,Z] (by kernel_rfl) rfl rfl ⟨(blk_cell BK373.out 0).trans rfl, (blk_cell BK373.out 1).trans rfl, (blk_cell BK374.out 0).trans rfl, (blk_cell BK374.out 1).trans rfl⟩ (fun hHeld => ?_)
       generalize w74.drew = w75 at BK373 BK374 BK375 HB hHeld ⊢
       refine take_ (i := 0) (N := some 6) (v := ?_) (a' := ?_) #[Y,Z,Z,Z,Z,Z] rfl rfl (by kernel_rfl) (fun _ _ _ h => h) (Or.inl ⟨by rfl, ?_⟩) hHeld ?_ ?_
       rotate_left
       · rintro w' ⟨s0, s1, s2, s3⟩
         go_simp
         with_reducible rfl
       rotate_left
       · simp only [Act.put, sA, sB, sC, i64_w, i32_w]
         rfl
       refine take_ (i := 2) (N := some 8) (v := ?_) (a' := ?_) #[Y,Z,Y,Z,Z,Z] rfl rfl (by kernel_rfl) (fun _ _ _ h => h) (Or.inl ⟨by rfl, ?_⟩) hHeld ?_ ?_
       rotate_left
       · rintro w' ⟨s0, s1, s2, s3⟩
         go_simp
         with_reducible rfl
       rotate_left
       · simp only [Act.put, sA, sB, sC, i64_w, i32_w]
         rfl
       refine one_ (i := 1) (N := some 7) #[Y,Y,Y,Z,Z,Z] rfl rfl (by kernel_rfl) (by decide) (fun K hK => ?_)
       refine goes_ Tryd.func42 (by kernel_rfl) rfl #[.agg #[.int .i64 a0_0, .int .i64 a0_1]] (by rfl) rfl rfl (by (try simp only [mA, mB, mC]); first | done | rfl) ?_
       with_reducible refine (timeboundref08_Form.calls k a0_0 a0_1 t376 t377 _ A3.out).mono ?_
       rintro e w76 ⟨rfl, hb⟩
       refine ⟨_, rfl, ?_⟩
       have n0_ := aK (blk_below (g := gb373) (o := .cells #[.int .i64 a0_0, .int .i64 a0_1] 25 (0, 0)) (by (with_reducible repeat (first | refine bR ?_ | refine bA ?_ _)); exact BK373.out) hb)
       have n1_ := aK (blk_below (g := gb374) (o := .cells #[.int .i64 a1_0, .int .i64 a1_1] 25 (0, 0)) (by (with_reducible repeat (first | refine bR ?_ | refine bA ?_ _)); exact BK374.out) hb)
       have n2_ := aK (blk_below (g := gb375) (o := .cells #[.int .i64 0, .int .i64 0] 25 (0, 0)) (by (with_reducible repeat (first | refine bR ?_ | refine bA ?_ _)); exact BK375.out) hb)
       have n3_ := aK (below_step (by repeat (first | (with_reducible first | exact HB.out | apply hA | apply hN | apply hD | refine below_set ?_ GE373.out | refine below_set ?_ GE374.out | refine below_set ?_ GE375.out) | exact HB.out)) hb)
       clear BK373
       clear BK374
       clear BK375
       clear HB
       have BK373 := n0_
       have BK374 := n1_
       have BK375 := n2_
       have HB := n3_
       clear n0_ n1_ n2_ n3_
       (try clear hb)
       (try clear hb2)
       (try clear hk)
       (try clear hi)
       refine hK.out _ _ ⟨(blk_cell BK373.out 0).trans rfl, (blk_cell BK373.out 1).trans rfl, (blk_cell BK374.out 0).trans rfl, (blk_cell BK374.out 1).trans rfl⟩ (fun hHeld => ?_)
       clear hK K
       refine norm_ (a' := ?_) ?_ ?_
       rotate_left
       · show Act.put _ (some 7) _ = _
         simp only [Act.put, sA, sB, sC, i64_w, i32_w]
         rfl
       refine one_ (i := 3) (N := some 9) #[Y,Y,Y,Y,Z,Z] rfl rfl (by kernel_rfl) (by decide) (fun K hK => ?_)
       refine goes_ Tryd.func42 (by kernel_rfl) rfl #[.agg #[.int .i64 a1_0, .int .i64 a1_1]] (by rfl) rfl rfl (by (try simp only [mA, mB, mC]); first | done | rfl) ?_
       with_reducible refine (timeboundref08_Form.calls k a1_0 a1_1 t378 t379 _ A4.out).mono ?_
       rintro e w77 ⟨rfl, hb⟩
       refine ⟨_, rfl, ?_⟩
       have n0_ := aK (blk_below (g := gb373) (o := .cells #[.int .i64 a0_0, .int .i64 a0_1] 25 (0, 0)) (by (with_reducible repeat (first | refine bR ?_ | refine bA ?_ _)); exact BK373.out) hb)
       have n1_ := aK (blk_below (g := gb374) (o := .cells #[.int .i64 a1_0, .int .i64 a1_1] 25 (0, 0)) (by (with_reducible repeat (first | refine bR ?_ | refine bA ?_ _)); exact BK374.out) hb)
       have n2_ := aK (blk_below (g := gb375) (o := .cells #[.int .i64 0, .int .i64 0] 25 (0, 0)) (by (with_reducible repeat (first | refine bR ?_ | refine bA ?_ _)); exact BK375.out) hb)
       have n3_ := aK (below_step (by repeat (first | (with_reducible first | exact HB.out | apply hA | apply hN | apply hD | refine below_set ?_ GE373.out | refine below_set ?_ GE374.out | refine below_set ?_ GE375.out) | exact HB.out)) hb)
       clear BK373
       clear BK374
       clear BK375
       clear HB
       have BK373 := n0_
       have BK374 := n1_
       have BK375 := n2_
       have HB := n3_
       clear n0_ n1_ n2_ n3_
       (try clear hb)
       (try clear hb2)
       (try clear hk)
       (try clear hi)
       refine hK.out _ _ ⟨(blk_cell BK373.out 0).trans rfl, (blk_cell BK373.out 1).trans rfl, (blk_cell BK374.out 0).trans rfl, (blk_cell BK374.out 1).trans rfl⟩ (fun hHeld => ?_)
       clear hK K
       refine norm_ (a' := ?_) ?_ ?_
       rotate_left
       · show Act.put _ (some 9) _ = _
         simp only [Act.put, sA, sB, sC, i64_w, i32_w]
         rfl
       refine last_ (i := 4) (N := none) #[Y,Y,Y,Y,Y,Z] rfl rfl (by kernel_rfl) (by decide) (fun K hK => ?_)
       have hs78 : w77.cell? ⟨gb373, 0, none⟩ = some (.int .i64 a0_0) := (blk_cell BK373.out 0).trans rfl
       have hfs78 := blk_frozen BK373.out 0
       have hns78_1 := NB374_373.out
       have hns78_2 := NB375_373.out
       have hms78_1 := NB373_374.out
       have hms78_2 := NB373_375.out
       have hs79 : w77.cell? ⟨gb373, 1, none⟩ = some (.int .i64 a0_1) := (blk_cell BK373.out 1).trans rfl
       have hfs79 := blk_frozen BK373.out 1
       have hns79_1 := NB374_373.out
       have hns79_2 := NB375_373.out
       have hms79_1 := NB373_374.out
       have hms79_2 := NB373_375.out
       refine skip_ (w1 := ?_) (by rfl) rfl ?_ ?_
       rotate_left
       · go_simp
         rfl
       refine hK.out _ _ ?_
       clear hK K
       refine last_ (i := 5) (N := none) #[Y,Y,Y,Y,Y,Y] rfl rfl (by kernel_rfl) (by decide) (fun K hK => ?_)
       have hs80 : w77.cell? ⟨gb374, 0, none⟩ = some (.int .i64 a1_0) := (blk_cell BK374.out 0).trans rfl
       have hfs80 := blk_frozen BK374.out 0
       have hns80_0 := NB373_374.out
       have hns80_2 := NB375_374.out
       have hms80_0 := NB374_373.out
       have hms80_2 := NB374_375.out
       have hs81 : w77.cell? ⟨gb374, 1, none⟩ = some (.int .i64 a1_1) := (blk_cell BK374.out 1).trans rfl
       have hfs81 := blk_frozen BK374.out 1
       have hns81_0 := NB373_374.out
       have hns81_2 := NB375_374.out
       have hms81_0 := NB374_373.out
       have hms81_2 := NB374_375.out
       refine skip_ (w1 := ?_) (by rfl) rfl ?_ ?_
       rotate_left
       · go_simp
         rfl
       refine hK.out _ _ ?_
       clear hK K
       refine done_ (by kernel_rfl) ?_
       try go_wp2
       have n0_ : Aside0 (((((w77.setCell ⟨gb373, 0, none⟩ (.int .i64 t376)).setCell ⟨gb373, 1, none⟩ (.int .i64 t377)).setCell ⟨gb374, 0, none⟩ (.int .i64 t378)).setCell ⟨gb374, 1, none⟩ (.int .i64 t379)).heap[gb373]? = some (.cells #[.int .i64 t376, .int .i64 t377] 25 (0, 0))) := ⟨by (with_reducible repeat (first | refine bR ?_ | refine bA ?_ _)); refine blk_far ?_ NB373_374.out _; (with_reducible repeat (first | refine bR ?_ | refine bA ?_ _)); refine blk_far ?_ NB373_374.out _; (with_reducible repeat (first | refine bR ?_ | refine bA ?_ _)); refine blk_put (cs := #[.int .i64 t376, .int .i64 a0_1]) ?_ 1 _ rfl; (with_reducible repeat (first | refine bR ?_ | refine bA ?_ _)); refine blk_put (cs := #[.int .i64 a0_0, .int .i64 a0_1]) ?_ 0 _ rfl; (with_reducible repeat (first | refine bR ?_ | refine bA ?_ _)); exact BK373.out⟩
       have n1_ : Aside0 (((((w77.setCell ⟨gb373, 0, none⟩ (.int .i64 t376)).setCell ⟨gb373, 1, none⟩ (.int .i64 t377)).setCell ⟨gb374, 0, none⟩ (.int .i64 t378)).setCell ⟨gb374, 1, none⟩ (.int .i64 t379)).heap[gb374]? = some (.cells #[.int .i64 t378, .int .i64 t379] 25 (0, 0))) := ⟨by (with_reducible repeat (first | refine bR ?_ | refine bA ?_ _)); refine blk_put (cs := #[.int .i64 t378, .int .i64 a1_1]) ?_ 1 _ rfl; (with_reducible repeat (first | refine bR ?_ | refine bA ?_ _)); refine blk_put (cs := #[.int .i64 a1_0, .int .i64 a1_1]) ?_ 0 _ rfl; (with_reducible repeat (first | refine bR ?_ | refine bA ?_ _)); refine blk_far ?_ NB374_373.out _; (with_reducible repeat (first | refine bR ?_ | refine bA ?_ _)); refine blk_far ?_ NB374_373.out _; (with_reducible repeat (first | refine bR ?_ | refine bA ?_ _)); exact BK374.out⟩
       have n2_ : Aside0 (((((w77.setCell ⟨gb373, 0, none⟩ (.int .i64 t376)).setCell ⟨gb373, 1, none⟩ (.int .i64 t377)).setCell ⟨gb374, 0, none⟩ (.int .i64 t378)).setCell ⟨gb374, 1, none⟩ (.int .i64 t379)).heap[gb375]? = some (.cells #[.int .i64 0, .int .i64 0] 25 (0, 0))) := ⟨by (with_reducible repeat (first | refine bR ?_ | refine bA ?_ _)); refine blk_far ?_ NB375_374.out _; (with_reducible repeat (first | refine bR ?_ | refine bA ?_ _)); refine blk_far ?_ NB375_374.out _; (with_reducible repeat (first | refine bR ?_ | refine bA ?_ _)); refine blk_far ?_ NB375_373.out _; (with_reducible repeat (first | refine bR ?_ | refine bA ?_ _)); refine blk_far ?_ NB375_373.out _; (with_reducible repeat (first | refine bR ?_ | refine bA ?_ _)); exact BK375.out⟩
       have n3_ : Aside0 (Below w.heap.size w ((((w77.setCell ⟨gb373, 0, none⟩ (.int .i64 t376)).setCell ⟨gb373, 1, none⟩ (.int .i64 t377)).setCell ⟨gb374, 0, none⟩ (.int .i64 t378)).setCell ⟨gb374, 1, none⟩ (.int .i64 t379))) := ⟨by repeat (first | (with_reducible first | exact HB.out | apply hA | apply hN | apply hD | refine below_set ?_ GE373.out | refine below_set ?_ GE374.out | refine below_set ?_ GE375.out) | exact HB.out)⟩
       (try clear BK373)
       (try clear BK374)
       (try clear BK375)
       (try clear HB)
       generalize ((((w77.setCell ⟨gb373, 0, none⟩ (.int .i64 t376)).setCell ⟨gb373, 1, none⟩ (.int .i64 t377)).setCell ⟨gb374, 0, none⟩ (.int .i64 t378)).setCell ⟨gb374, 1, none⟩ (.int .i64 t379)) = w82 at n0_ n1_ n2_ n3_ ⊢
       have BK373 := n0_
       have BK374 := n1_
       have BK375 := n2_
       have HB := n3_
       clear n0_ n1_ n2_ n3_
       have n0_ := aK (blk_drew BK373.out)
       have n1_ := aK (blk_drew BK374.out)
       have n2_ := aK (blk_drew BK375.out)
       have n3_ := aK (below_drew1 HB.out)
       clear BK373
       clear BK374
       clear BK375
       clear HB
       have BK373 := n0_
       have BK374 := n1_
       have BK375 := n2_
       have HB := n3_
       clear n0_ n1_ n2_ n3_
       refine start_ (n := 4) (S := fun w' => w'.cell? ⟨gb373, 0, none⟩ = some (.int .i64 t376) ∧ w'.cell? ⟨gb373, 1, none⟩ = some (.int .i64 t377)) (ds := []) #[Z,Z,Z,Z] (by kernel_rfl) rfl rfl ⟨(blk_cell BK373.out 0).trans rfl, (blk_cell BK373.out 1).trans rfl⟩ (fun hHeld => ?_)
       generalize w82.drew = w83 at BK373 BK374 BK375 HB hHeld ⊢
       refine take_ (i := 0) (N := some 11) (v := ?_) (a' := ?_) #[Y,Z,Z,Z] rfl rfl (by kernel_rfl) (fun _ _ _ h => h) (Or.inl ⟨by rfl, ?_⟩) hHeld ?_ ?_
       rotate_left
       · rintro w' ⟨s0, s1⟩
         go_simp
         with_reducible rfl
       rotate_left
       · simp only [Act.put, sA, sB, sC, i64_w, i32_w]
         rfl
       refine one_ (i := 1) (N := some 12) #[Y,Y,Z,Z] rfl rfl (by kernel_rfl) (by decide) (fun K hK => ?_)
       refine goes_ Tryd.func21 (by kernel_rfl) rfl #[] (by rfl) rfl rfl (by (try simp only [mA, mB, mC]); first | done | rfl) ?_
       with_reducible refine (timeboundref08_None.calls  t380 t381 _ A5.out).mono ?_
       rintro e w84 ⟨rfl, hb⟩
       refine ⟨_, rfl, ?_⟩
       have n0_ := aK (blk_below (g := gb373) (o := .cells #[.int .i64 t376, .int .i64 t377] 25 (0, 0)) (by (with_reducible repeat (first | refine bR ?_ | refine bA ?_ _)); exact BK373.out) hb)
       have n1_ := aK (blk_below (g := gb374) (o := .cells #[.int .i64 t378, .int .i64 t379] 25 (0, 0)) (by (with_reducible repeat (first | refine bR ?_ | refine bA ?_ _)); exact BK374.out) hb)
       have n2_ := aK (blk_below (g := gb375) (o := .cells #[.int .i64 0, .int .i64 0] 25 (0, 0)) (by (with_reducible repeat (first | refine bR ?_ | refine bA ?_ _)); exact BK375.out) hb)
       have n3_ := aK (below_step (by repeat (first | (with_reducible first | exact HB.out | apply hA | apply hN | apply hD | refine below_set ?_ GE373.out | refine below_set ?_ GE374.out | refine below_set ?_ GE375.out) | exact HB.out)) hb)
       clear BK373
       clear BK374
       clear BK375
       clear HB
       have BK373 := n0_
       have BK374 := n1_
       have BK375 := n2_
       have HB := n3_
       clear n0_ n1_ n2_ n3_
       (try clear hb)
       (try clear hb2)
       (try clear hk)
       (try clear hi)
       refine hK.out _ _ ⟨(blk_cell BK373.out 0).trans rfl, (blk_cell BK373.out 1).trans rfl⟩ (fun hHeld => ?_)
       clear hK K
       refine norm_ (a' := ?_) ?_ ?_
       rotate_left
       · show Act.put _ (some 12) _ = _
         simp only [Act.put, sA, sB, sC, i64_w, i32_w]
         rfl
       refine pure_ (i := 2) (N := some 13) (v := ?_) (a' := ?_) #[Y,Y,Y,Z] rfl rfl (by kernel_rfl) (fun _ _ _ h => h) (Or.inl ⟨by rfl, ?_⟩) ?_ ?_
       rotate_left
       · intro w'
         go_simp
         with_reducible rfl
       rotate_left
       · simp only [Act.put, sA, sB, sC, i64_w, i32_w]
         rfl
       refine pure_ (i := 3) (N := some 10) (v := ?_) (a' := ?_) #[Y,Y,Y,Y] rfl rfl (by kernel_rfl) (fun _ _ _ h => h) (Or.inl ⟨by rfl, ?_⟩) ?_ ?_
       rotate_left
       · intro w'
         go_simp
         with_reducible rfl
       rotate_left
       · simp only [Act.put, sA, sB, sC, i64_w, i32_w]
         rfl
       refine done_ (by kernel_rfl) ?_
       try go_wp2
       have n0_ := aK (blk_drew BK373.out)
       have n1_ := aK (blk_drew BK374.out)
       have n2_ := aK (blk_drew BK375.out)
       have n3_ := aK (below_drew1 HB.out)
       clear BK373
       clear BK374
       clear BK375
       clear HB
       have BK373 := n0_
       have BK374 := n1_
       have BK375 := n2_
       have HB := n3_
       clear n0_ n1_ n2_ n3_
       refine start_ (n := 9) (S := fun w' => w'.cell? ⟨gb374, 0, none⟩ = some (.int .i64 t378) ∧ w'.cell? ⟨gb374, 1, none⟩ = some (.int .i64 t379) ∧ w'.cell? ⟨gb373, 0, none⟩ = some (.int .i64 t376) ∧ w'.cell? ⟨gb373, 1, none⟩ = some (.int .i64 t377)) (ds := []) #[Z,Z,Z,Z,Z,Z,Z,Z,Z] (by kernel_rfl) rfl rfl ⟨(blk_cell BK374.out 0).trans rfl, (blk_cell BK374.out 1).trans rfl, (blk_cell BK373.out 0).trans rfl, (blk_cell BK373.out 1).trans rfl⟩ (fun hHeld => ?_); refine with_tabW timeboundref08_Join.tab4 timeboundref08_Join.bits4 (fun HT_ HW_ => ?_)
       generalize w84.drew = w85 at BK373 BK374 BK375 HB hHeld ⊢
       refine take_ (i := 0) (N := some 16) (v := ?_) (a' := ?_) #[Y,Z,Z,Z,Z,Z,Z,Z,Z] rfl rfl (take_ofW HT_.out HW_.out (by kernel_rfl)) (fun _ _ _ h => h) (Or.inl ⟨by rfl, ?_⟩) hHeld ?_ ?_
       rotate_left
       · rintro w' ⟨s0, s1, s2, s3⟩
         go_simp
         with_reducible rfl
       rotate_left
       · simp only [Act.put, sA, sB, sC, i64_w, i32_w]
         rfl
       refine one_ (i := 1) (N := some 17) #[Y,Y,Z,Z,Z,Z,Z,Z,Z] rfl rfl (one_of HT_.out (by kernel_rfl)) (by decide) (fun K hK => ?_)
       refine goes_ Tryd.func21 (by kernel_rfl) rfl #[] (by rfl) rfl rfl (by (try simp only [mA, mB, mC]); first | done | rfl) ?_
       with_reducible refine (timeboundref08_None.calls  t382 t383 _ A25.out).mono ?_
       rintro e w86 ⟨rfl, hb⟩
       refine ⟨_, rfl, ?_⟩
       have n0_ := aK (blk_below (g := gb373) (o := .cells #[.int .i64 t376, .int .i64 t377] 25 (0, 0)) (by (with_reducible repeat (first | refine bR ?_ | refine bA ?_ _)); exact BK373.out) hb)
       have n1_ := aK (blk_below (g := gb374) (o := .cells #[.int .i64 t378, .int .i64 t379] 25 (0, 0)) (by (with_reducible repeat (first | refine bR ?_ | refine bA ?_ _)); exact BK374.out) hb)
       have n2_ := aK (blk_below (g := gb375) (o := .cells #[.int .i64 0, .int .i64 0] 25 (0, 0)) (by (with_reducible repeat (first | refine bR ?_ | refine bA ?_ _)); exact BK375.out) hb)
       have n3_ := aK (below_step (by repeat (first | (with_reducible first | exact HB.out | apply hA | apply hN | apply hD | refine below_set ?_ GE373.out | refine below_set ?_ GE374.out | refine below_set ?_ GE375.out) | exact HB.out)) hb)
       clear BK373
       clear BK374
       clear BK375
       clear HB
       have BK373 := n0_
       have BK374 := n1_
       have BK375 := n2_
       have HB := n3_
       clear n0_ n1_ n2_ n3_
       (try clear hb)
       (try clear hb2)
       (try clear hk)
       (try clear hi)
       refine hK.out _ _ ⟨(blk_cell BK374.out 0).trans rfl, (blk_cell BK374.out 1).trans rfl, (blk_cell BK373.out 0).trans rfl, (blk_cell BK373.out 1).trans rfl⟩ (fun hHeld => ?_)
       clear hK K
       refine norm_ (a' := ?_) ?_ ?_
       rotate_left
       · show Act.put _ (some 17) _ = _
         simp only [Act.put, sA, sB, sC, i64_w, i32_w]
         rfl
       refine pure_ (i := 2) (N := some 18) (v := ?_) (a' := ?_) #[Y,Y,Y,Z,Z,Z,Z,Z,Z] rfl rfl (any_of HT_.out (by kernel_rfl)) (fun _ _ _ h => h) (Or.inl ⟨by rfl, ?_⟩) ?_ ?_
       rotate_left
       · intro w'
         go_simp
         with_reducible rfl
       rotate_left
       · simp only [Act.put, sA, sB, sC, i64_w, i32_w]
         rfl
       refine pure_ (i := 3) (N := some 19) (v := ?_) (a' := ?_) #[Y,Y,Y,Y,Z,Z,Z,Z,Z] rfl rfl (any_of HT_.out (by kernel_rfl)) (fun _ _ _ h => h) (Or.inl ⟨by rfl, ?_⟩) ?_ ?_
       rotate_left
       · intro w'
         go_simp
         with_reducible rfl
       rotate_left
       · simp only [Act.put, sA, sB, sC, i64_w, i32_w]
         rfl
       refine take_ (i := 4) (N := some 20) (v := ?_) (a' := ?_) #[Y,Y,Y,Y,Y,Z,Z,Z,Z] rfl rfl (take_ofW HT_.out HW_.out (by kernel_rfl)) (fun _ _ _ h => h) (Or.inl ⟨by rfl, ?_⟩) hHeld ?_ ?_
       rotate_left
       · rintro w' ⟨s0, s1, s2, s3⟩
         go_simp
         with_reducible rfl
       rotate_left
       · simp only [Act.put, sA, sB, sC, i64_w, i32_w]
         rfl
       refine take_ (i := 5) (N := some 21) (v := ?_) (a' := ?_) #[Y,Y,Y,Y,Y,Y,Z,Z,Z] rfl rfl (take_ofW HT_.out HW_.out (by kernel_rfl)) (fun _ _ _ h => h) (Or.inl ⟨by rfl, ?_⟩) hHeld ?_ ?_
       rotate_left
       · rintro w' ⟨s0, s1, s2, s3⟩
         go_simp
         with_reducible rfl
       rotate_left
       · simp only [Act.put, sA, sB, sC, i64_w, i32_w]
         rfl
       refine pure_ (i := 6) (N := some 22) (v := ?_) (a' := ?_) #[Y,Y,Y,Y,Y,Y,Y,Z,Z] rfl rfl (any_of HT_.out (by kernel_rfl)) (fun _ _ _ h => h) (Or.inl ⟨by rfl, ?_⟩) ?_ ?_
       rotate_left
       · intro w'
         go_simp
         with_reducible rfl
       rotate_left
       · simp only [Act.put, sA, sB, sC, i64_w, i32_w]
         rfl
       refine pure_ (i := 7) (N := some 23) (v := ?_) (a' := ?_) #[Y,Y,Y,Y,Y,Y,Y,Y,Z] rfl rfl (any_of HT_.out (by kernel_rfl)) (fun _ _ _ h => h) (Or.inl ⟨by rfl, ?_⟩) ?_ ?_
       rotate_left
       · intro w'
         go_simp
         with_reducible rfl
       rotate_left
       · simp only [Act.put, sA, sB, sC, i64_w, i32_w]
         rfl
       refine pure_ (i := 8) (N := some 15) (v := ?_) (a' := ?_) #[Y,Y,Y,Y,Y,Y,Y,Y,Y] rfl rfl (any_of HT_.out (by kernel_rfl)) (fun _ _ _ h => h) (Or.inl ⟨by rfl, ?_⟩) ?_ ?_
       rotate_left
       · intro w'
         go_simp
         with_reducible rfl
       rotate_left
       · simp only [Act.put, sA, sB, sC, i64_w, i32_w]
         rfl
       refine done_ (done_of HT_.out (by kernel_rfl)) ?_
       try go_wp2
       have n0_ := aK (blk_drew BK373.out)
       have n1_ := aK (blk_drew BK374.out)
       have n2_ := aK (blk_drew BK375.out)
       have n3_ := aK (below_drew1 HB.out)
       clear BK373
       clear BK374
       clear BK375
       clear HB
       have BK373 := n0_
       have BK374 := n1_
       have BK375 := n2_
       have HB := n3_
       clear n0_ n1_ n2_ n3_
       refine start_ (n := 6) (S := fun w' => w'.cell? ⟨gb373, 0, none⟩ = some (.int .i64 t376) ∧ w'.cell? ⟨gb373, 1, none⟩ = some (.int .i64 t377) ∧ w'.cell? ⟨gb374, 0, none⟩ = some (.int .i64 t378) ∧ w'.cell? ⟨gb374, 1, none⟩ = some (.int .i64 t379)) (ds := []) #[Z,Z,Z,Z,Z,Z] (by kernel_rfl) rfl rfl ⟨(blk_cell BK373.out 0).trans rfl, (blk_cell BK373.out 1).trans rfl, (blk_cell BK374.out 0).trans rfl, (blk_cell BK374.out 1).trans rfl⟩ (fun hHeld => ?_)
       generalize w86.drew = w87 at BK373 BK374 BK375 HB hHeld ⊢
       refine take_ (i := 0) (N := some 25) (v := ?_) (a' := ?_) #[Y,Z,Z,Z,Z,Z] rfl rfl (by kernel_rfl) (fun _ _ _ h => h) (Or.inl ⟨by rfl, ?_⟩) hHeld ?_ ?_
       rotate_left
       · rintro w' ⟨s0, s1, s2, s3⟩
         go_simp
         with_reducible rfl
       rotate_left
       · simp only [Act.put, sA, sB, sC, i64_w, i32_w]
         rfl
       refine take_ (i := 2) (N := some 27) (v := ?_) (a' := ?_) #[Y,Z,Y,Z,Z,Z] rfl rfl (by kernel_rfl) (fun _ _ _ h => h) (Or.inl ⟨by rfl, ?_⟩) hHeld ?_ ?_
       rotate_left
       · rintro w' ⟨s0, s1, s2, s3⟩
         go_simp
         with_reducible rfl
       rotate_left
       · simp only [Act.put, sA, sB, sC, i64_w, i32_w]
         rfl
       refine one_ (i := 1) (N := some 26) #[Y,Y,Y,Z,Z,Z] rfl rfl (by kernel_rfl) (by decide) (fun K hK => ?_)
       refine goes_ Tryd.func43 (by kernel_rfl) rfl #[.agg #[.int .i64 t376, .int .i64 t377]] (by rfl) rfl rfl (by (try simp only [mA, mB, mC]); first | done | rfl) ?_
       with_reducible refine (timeboundref08_Bits.calls k t376 t377 t384 _ A68.out).mono ?_
       rintro e w88 ⟨rfl, hb⟩
       refine ⟨_, rfl, ?_⟩
       have n0_ := aK (blk_below (g := gb373) (o := .cells #[.int .i64 t376, .int .i64 t377] 25 (0, 0)) (by (with_reducible repeat (first | refine bR ?_ | refine bA ?_ _)); exact BK373.out) hb)
       have n1_ := aK (blk_below (g := gb374) (o := .cells #[.int .i64 t378, .int .i64 t379] 25 (0, 0)) (by (with_reducible repeat (first | refine bR ?_ | refine bA ?_ _)); exact BK374.out) hb)
       have n2_ := aK (blk_below (g := gb375) (o := .cells #[.int .i64 0, .int .i64 0] 25 (0, 0)) (by (with_reducible repeat (first | refine bR ?_ | refine bA ?_ _)); exact BK375.out) hb)
       have n3_ := aK (below_step (by repeat (first | (with_reducible first | exact HB.out | apply hA | apply hN | apply hD | refine below_set ?_ GE373.out | refine below_set ?_ GE374.out | refine below_set ?_ GE375.out) | exact HB.out)) hb)
       clear BK373
       clear BK374
       clear BK375
       clear HB
       have BK373 := n0_
       have BK374 := n1_
       have BK375 := n2_
       have HB := n3_
       clear n0_ n1_ n2_ n3_
       (try clear hb)
       (try clear hb2)
       (try clear hk)
       (try clear hi)
       refine hK.out _ _ ⟨(blk_cell BK373.out 0).trans rfl, (blk_cell BK373.out 1).trans rfl, (blk_cell BK374.out 0).trans rfl, (blk_cell BK374.out 1).trans rfl⟩ (fun hHeld => ?_)
       clear hK K
       refine norm_ (a' := ?_) ?_ ?_
       rotate_left
       · show Act.put _ (some 26) _ = _
         simp only [Act.put, sA, sB, sC, i64_w, i32_w]
         rfl
       refine one_ (i := 3) (N := some 28) #[Y,Y,Y,Y,Z,Z] rfl rfl (by kernel_rfl) (by decide) (fun K hK => ?_)
       refine goes_ Tryd.func43 (by kernel_rfl) rfl #[.agg #[.int .i64 t378, .int .i64 t379]] (by rfl) rfl rfl (by (try simp only [mA, mB, mC]); first | done | rfl) ?_
       with_reducible refine (timeboundref08_Bits.calls k t378 t379 t385 _ A69.out).mono ?_
       rintro e w89 ⟨rfl, hb⟩
       refine ⟨_, rfl, ?_⟩
       have n0_ := aK (blk_below (g := gb373) (o := .cells #[.int .i64 t376, .int .i64 t377] 25 (0, 0)) (by (with_reducible repeat (first | refine bR ?_ | refine bA ?_ _)); exact BK373.out) hb)
       have n1_ := aK (blk_below (g := gb374) (o := .cells #[.int .i64 t378, .int .i64 t379] 25 (0, 0)) (by (with_reducible repeat (first | refine bR ?_ | refine bA ?_ _)); exact BK374.out) hb)
       have n2_ := aK (blk_below (g := gb375) (o := .cells #[.int .i64 0, .int .i64 0] 25 (0, 0)) (by (with_reducible repeat (first | refine bR ?_ | refine bA ?_ _)); exact BK375.out) hb)
       have n3_ := aK (below_step (by repeat (first | (with_reducible first | exact HB.out | apply hA | apply hN | apply hD | refine below_set ?_ GE373.out | refine below_set ?_ GE374.out | refine below_set ?_ GE375.out) | exact HB.out)) hb)
       clear BK373
       clear BK374
       clear BK375
       clear HB
       have BK373 := n0_
       have BK374 := n1_
       have BK375 := n2_
       have HB := n3_
       clear n0_ n1_ n2_ n3_
       (try clear hb)
       (try clear hb2)
       (try clear hk)
       (try clear hi)
       refine hK.out _ _ ⟨(blk_cell BK373.out 0).trans rfl, (blk_cell BK373.out 1).trans rfl, (blk_cell BK374.out 0).trans rfl, (blk_cell BK374.out 1).trans rfl⟩ (fun hHeld => ?_)
       clear hK K
       refine norm_ (a' := ?_) ?_ ?_
       rotate_left
       · show Act.put _ (some 28) _ = _
         simp only [Act.put, sA, sB, sC, i64_w, i32_w]
         rfl
       refine pure_ (i := 4) (N := some 29) (v := ?_) (a' := ?_) #[Y,Y,Y,Y,Y,Z] rfl rfl (by kernel_rfl) (fun _ _ _ h => h) (Or.inl ⟨by rfl, ?_⟩) ?_ ?_
       rotate_left
       · intro w'
         go_simp
         with_reducible rfl
       rotate_left
       · simp only [Act.put, sA, sB, sC, i64_w, i32_w]
         rfl
       refine pure_ (i := 5) (N := some 5) (v := ?_) (a' := ?_) #[Y,Y,Y,Y,Y,Y] rfl rfl (by kernel_rfl) (fun _ _ _ h => h) (Or.inl ⟨by rfl, ?_⟩) ?_ ?_
       rotate_left
       · intro w'
         go_simp
         with_reducible rfl
       rotate_left
       · simp only [Act.put, sA, sB, sC, i64_w, i32_w]
         rfl
       refine done_ (by kernel_rfl) ?_
       try go_wp2
       go_loopg [5] k (fun kq v5 w' => ∃ (x5_1 : Int), v5 = .int .i64 x5_1 ∧ Aside0 (timeboundref08_Join.l0 kq x5_1 t376 t377 t378 t379 = some (r1, r2)) ∧ Aside0 (kq ≤ k) ∧ Aside0 (w'.heap[gb373]? = some (.cells #[.int .i64 t376, .int .i64 t377] 25 (0, 0))) ∧ Aside0 (w'.heap[gb374]? = some (.cells #[.int .i64 t378, .int .i64 t379] 25 (0, 0))) ∧ Aside0 (w'.heap[gb375]? = some (.cells #[.int .i64 0, .int .i64 0] 25 (0, 0))) ∧ Aside0 (Below w.heap.size w w'))
       case atStart => exact ⟨(ji71), (by first | rfl | (simp; done) | (simp only [← hji71] <;> (first | rfl | simp)) | (simp [*]; done)), H', ⟨Nat.le_refl _⟩, ⟨by (with_reducible repeat (first | refine bR ?_ | refine bA ?_ _)); exact BK373.out⟩, ⟨by (with_reducible repeat (first | refine bR ?_ | refine bA ?_ _)); exact BK374.out⟩, ⟨by (with_reducible repeat (first | refine bR ?_ | refine bA ?_ _)); exact BK375.out⟩, ⟨by repeat (first | (with_reducible first | exact HB.out | apply hA | apply hN | apply hD | refine below_set ?_ GE373.out | refine below_set ?_ GE374.out | refine below_set ?_ GE375.out) | exact HB.out)⟩⟩
       case round =>
        clear H'
        try clear c2
        try clear p2
        try clear c3
        try clear c4
        try clear c6
        try clear c21
        try clear c33
        try clear c42
        try clear c43
        try clear c47
        try clear c47b0
        try clear c47b1
        try clear c47b2
        try clear c63
        try clear c64
        try clear c66
        try clear hcz65_0
        try clear hcz65_1
        try clear hcz67_0
        try clear hcz67_1
        try clear hfz65_0
        try clear hfz65_1
        try clear hfz67_0
        try clear hfz67_1
        obtain ⟨x5_1, rfl, HA, HK1, BK373, BK374, BK375, HB⟩ := hrel
        cases gk with
        | zero => exact absurd HA.out (by simp [timeboundref08_Join.l0])
        | succ k1 =>
         have H := HA.out
         clear HA
         simp only [timeboundref08_Join.l0] at H
         by_cases c90 : x5_1 > 0
         · rw [if_pos c90] at H
           have c90b0 : decide (0 < x5_1) = true := decide_eq_true c90
           clear c90
           obtain ⟨ji91, hji91⟩ : ∃ j_ : Int, (IntKind.u64.wrap (x5_1)) = j_ := ⟨_, rfl⟩
           replace H : (if 0 ≤ (ji91) then (if (shl .i64 1 (ji91)) = 0 then (none) else (if (Int.tmod (wrap64 (t377 - t379)) (shl .i64 1 (ji91))) = 0 then ((timeboundref08_low.f t377 x5_1).bind fun bt386 => (some (bt386.1, bt386.2))) else (timeboundref08_Join.l0 k1 (wrap64 (x5_1 - 1)) t376 t377 t378 t379))) else (none)) = some (r1, r2) := by first | (rw [hji91] at H; exact H) | (simp only [hji91] at H ⊢; exact H)
           by_cases c92 : 0 ≤ (ji91)
           · rw [if_pos c92] at H
             have c92b0 := eq_true c92
             have c92b1 : decide (0 ≤ (ji91)) = true := decide_eq_true c92
             clear c92
             obtain ⟨ji93, hji93⟩ : ∃ j_ : Int, (shl .i64 1 (ji91)) = j_ := ⟨_, rfl⟩
             replace H : (if (ji93) = 0 then (none) else (if (Int.tmod (wrap64 (t377 - t379)) (ji93)) = 0 then ((timeboundref08_low.f t377 x5_1).bind fun bt386 => (some (bt386.1, bt386.2))) else (timeboundref08_Join.l0 k1 (wrap64 (x5_1 - 1)) t376 t377 t378 t379))) = some (r1, r2) := by first | (rw [hji93] at H; exact H) | (simp only [hji93] at H ⊢; exact H)
             have hji93_ : (IntKind.i64.wrap (1 * 2 ^ min (ji91).toNat 64)) = ji93 := hji93
             have hji93z : (ji91) ≤ 64 → (IntKind.i64.wrap (1 * 2 ^ (ji91).toNat)) = ji93 := shl_small hji93
             have hji93u : (IntKind.i64.wrap (2 ^ min (ji91).toNat 64)) = ji93 := by have h_ := hji93_; rw [Int.one_mul] at h_; exact h_
             have hji93v : (ji91) ≤ 64 → (IntKind.i64.wrap (2 ^ (ji91).toNat)) = ji93 := fun hle_ => by have h_ := hji93z hle_; rw [Int.one_mul] at h_; exact h_
             have hji93y : (wrap64 (1 * 2 ^ min (ji91).toNat 64)) = ji93 := (i64_w _).symm.trans hji93_
             have hji93x : (ji91) ≤ 64 → (wrap64 (1 * 2 ^ (ji91).toNat)) = ji93 := fun h_ => (i64_w _).symm.trans (hji93z h_)
             by_cases c94 : (ji93) = 0
             · rw [if_pos c94] at H
               exact absurd H (by simp)
             · rw [if_neg c94] at H
               have c94b0 : ((ji93) == 0) = false := beq_eq_false_iff_ne.mpr c94
               have c94b1 : ((ji93) != 0) = true := bne_iff_ne.mpr c94
               by_cases c95 : (Int.tmod (wrap64 (t377 - t379)) (ji93)) = 0
               · rw [if_pos c95] at H
                 have c95b0 : ((Int.tmod (wrap64 (t377 - t379)) (ji93)) == 0) = true := beq_iff_eq.mpr c95
                 have c95b1 : ((Int.tmod (wrap64 (t377 - t379)) (ji93)) != 0) = false := bne_eq_false_iff_eq.mpr c95
                 clear c95
                 replace H := Option.bind_eq_some_iff.mp H
                 obtain ⟨⟨t386, t387⟩, A960, H⟩ := H
                 replace H : (some (t386, t387)) = some (r1, r2) := H
                 have A96 := aK A960
                 clear A960
                 simp only [Option.some.injEq, Prod.mk.injEq] at H
                 obtain ⟨rfl, rfl⟩ := H
                 have hnb97 := NB373_374.out
                 have hnc97 := NB374_373.out
                 have hnb98 := NB373_375.out
                 have hnc98 := NB375_373.out
                 have hcz99_0 : wr.cell? ⟨gb373, 0, none⟩ = some (.int .i64 t376) := (blk_cell BK373.out 0).trans rfl
                 have hcz99_1 : wr.cell? ⟨gb373, 1, none⟩ = some (.int .i64 t377) := (blk_cell BK373.out 1).trans rfl
                 have hfz99_0 := blk_frozen BK373.out 0
                 have hfz99_1 := blk_frozen BK373.out 1
                 have hnb100 := NB374_375.out
                 have hnc100 := NB375_374.out
                 have hcz101_0 : wr.cell? ⟨gb374, 0, none⟩ = some (.int .i64 t378) := (blk_cell BK374.out 0).trans rfl
                 have hcz101_1 : wr.cell? ⟨gb374, 1, none⟩ = some (.int .i64 t379) := (blk_cell BK374.out 1).trans rfl
                 have hfz101_0 := blk_frozen BK374.out 0
                 have hfz101_1 := blk_frozen BK374.out 1
                 go_wp2_with (first | ((with_reducible refine gate_callee (f := 44) rfl ?_); refine goesL_ (some 49) rfl rfl Tryd.func44 (by kernel_rfl) rfl #[.int .i64 t377, .int .i64 x5_1] rfl (by (try simp only [mA, mB, mC]); first | done | rfl) ?_; (with_reducible refine (timeboundref08_low.calls t377 x5_1 t386 t387 _ A96.out).mono ?_); rintro e w102 ⟨rfl, hb⟩; refine ⟨_, rfl, ?_⟩; have n0_ := aK (blk_below (g := gb373) (o := .cells #[.int .i64 t376, .int .i64 t377] 25 (0, 0)) (by (with_reducible repeat (first | refine bR ?_ | refine bA ?_ _)); exact BK373.out) hb); have n1_ := aK (blk_below (g := gb374) (o := .cells #[.int .i64 t378, .int .i64 t379] 25 (0, 0)) (by (with_reducible repeat (first | refine bR ?_ | refine bA ?_ _)); exact BK374.out) hb); have n2_ := aK (blk_below (g := gb375) (o := .cells #[.int .i64 0, .int .i64 0] 25 (0, 0)) (by (with_reducible repeat (first | refine bR ?_ | refine bA ?_ _)); exact BK375.out) hb); have n3_ := aK (below_step (by repeat (first | (with_reducible first | exact HB.out | apply hA | apply hN | apply hD | refine below_set ?_ GE373.out | refine below_set ?_ GE374.out | refine below_set ?_ GE375.out) | exact HB.out)) hb); clear BK373; clear BK374; clear BK375; clear HB; have BK373 := n0_; have BK374 := n1_; have BK375 := n2_; have HB := n3_; clear n0_ n1_ n2_ n3_; (try clear hb); (try clear hb2); (try clear hk); (try clear hi); have hcz103_0 : w102.cell? ⟨gb375, 0, none⟩ = some (.int .i64 0) := (blk_cell BK375.out 0).trans rfl; have hcz103_1 : w102.cell? ⟨gb375, 1, none⟩ = some (.int .i64 0) := (blk_cell BK375.out 1).trans rfl; have hfz103_0 := blk_frozen BK375.out 0; have hfz103_1 := blk_frozen BK375.out 1))
                 refine bodyPost_ret (results_cell_row rfl _ _ gb375 25 #[.int .i64 t386, .int .i64 t387] (0, 0) _ rfl (by (with_reducible repeat (first | refine bR ?_ | refine bA ?_ _)); refine blk_put (cs := #[.int .i64 t386, .int .i64 0]) ?_ 1 _ rfl; (with_reducible repeat (first | refine bR ?_ | refine bA ?_ _)); refine blk_put (cs := #[.int .i64 0, .int .i64 0]) ?_ 0 _ rfl; (with_reducible repeat (first | refine bR ?_ | refine bA ?_ _)); exact BK375.out) Tryd.underlying25 rfl (by kernel_rfl)) rfl ?_
                 exact ⟨by first | rfl | (simp [errW_none, errW_some] <;> rfl) | (simp only [← hji70, ← hji71, ← hji91, ← hji93]; first | rfl | (simp [errW_none, errW_some] <;> rfl)) | (simp [*, errW_none, errW_some] <;> rfl), by repeat (first | (with_reducible first | exact HB.out | apply hA | apply hN | apply hD | refine below_set ?_ GE373.out | refine below_set ?_ GE374.out | refine below_set ?_ GE375.out) | exact HB.out)⟩
               · rw [if_neg c95] at H
                 have c95b0 : ((Int.tmod (wrap64 (t377 - t379)) (ji93)) == 0) = false := beq_eq_false_iff_ne.mpr c95
                 have c95b1 : ((Int.tmod (wrap64 (t377 - t379)) (ji93)) != 0) = true := bne_iff_ne.mpr c95
                 have H' := aK H
                 clear H
                 have hnb104 := NB373_374.out
                 have hnc104 := NB374_373.out
                 have hnb105 := NB373_375.out
                 have hnc105 := NB375_373.out
                 have hcz106_0 : wr.cell? ⟨gb373, 0, none⟩ = some (.int .i64 t376) := (blk_cell BK373.out 0).trans rfl
                 have hcz106_1 : wr.cell? ⟨gb373, 1, none⟩ = some (.int .i64 t377) := (blk_cell BK373.out 1).trans rfl
                 have hfz106_0 := blk_frozen BK373.out 0
                 have hfz106_1 := blk_frozen BK373.out 1
                 have hnb107 := NB374_375.out
                 have hnc107 := NB375_374.out
                 have hcz108_0 : wr.cell? ⟨gb374, 0, none⟩ = some (.int .i64 t378) := (blk_cell BK374.out 0).trans rfl
                 have hcz108_1 : wr.cell? ⟨gb374, 1, none⟩ = some (.int .i64 t379) := (blk_cell BK374.out 1).trans rfl
                 have hfz108_0 := blk_frozen BK374.out 0
                 have hfz108_1 := blk_frozen BK374.out 1
                 go_wp2
                 go_roundg k1
                 case measure => have := HK1.out; omega
                 case rel => exact ⟨(wrap64 (x5_1 - 1)), (by first | rfl | (simp; done) | (simp [*]; done)), H', ⟨by have := HK1.out; omega⟩, ⟨by (with_reducible repeat (first | refine bR ?_ | refine bA ?_ _)); exact BK373.out⟩, ⟨by (with_reducible repeat (first | refine bR ?_ | refine bA ?_ _)); exact BK374.out⟩, ⟨by (with_reducible repeat (first | refine bR ?_ | refine bA ?_ _)); exact BK375.out⟩, ⟨by repeat (first | (with_reducible first | exact HB.out | apply hA | apply hN | apply hD | refine below_set ?_ GE373.out | refine below_set ?_ GE374.out | refine below_set ?_ GE375.out) | exact HB.out)⟩⟩
           · rw [if_neg c92] at H
             exact absurd H (by simp)
         · rw [if_neg c90] at H
           have c90b0 : decide (0 < x5_1) = false := decide_eq_false c90
           clear c90
           replace H := Option.bind_eq_some_iff.mp H
           obtain ⟨⟨t388, t389⟩, A1090, H⟩ := H
           replace H : (some (t388, t389)) = some (r1, r2) := H
           have A109 := aK A1090
           clear A1090
           simp only [Option.some.injEq, Prod.mk.injEq] at H
           obtain ⟨rfl, rfl⟩ := H
           have hnb110 := NB373_374.out
           have hnc110 := NB374_373.out
           have hnb111 := NB373_375.out
           have hnc111 := NB375_373.out
           have hcz112_0 : wr.cell? ⟨gb373, 0, none⟩ = some (.int .i64 t376) := (blk_cell BK373.out 0).trans rfl
           have hcz112_1 : wr.cell? ⟨gb373, 1, none⟩ = some (.int .i64 t377) := (blk_cell BK373.out 1).trans rfl
           have hfz112_0 := blk_frozen BK373.out 0
           have hfz112_1 := blk_frozen BK373.out 1
           go_wp2_with (first | ((with_reducible refine gate_callee (f := 44) rfl ?_); refine goesL_ (some 49) rfl rfl Tryd.func44 (by kernel_rfl) rfl #[.int .i64 t377, .int .i64 x5_1] rfl (by (try simp only [mA, mB, mC]); first | done | rfl) ?_; (with_reducible refine (timeboundref08_low.calls t377 x5_1 t388 t389 _ A109.out).mono ?_); rintro e w113 ⟨rfl, hb⟩; refine ⟨_, rfl, ?_⟩; have n0_ := aK (blk_below (g := gb373) (o := .cells #[.int .i64 t376, .int .i64 t377] 25 (0, 0)) (by (with_reducible repeat (first | refine bR ?_ | refine bA ?_ _)); exact BK373.out) hb); have n1_ := aK (blk_below (g := gb374) (o := .cells #[.int .i64 t378, .int .i64 t379] 25 (0, 0)) (by (with_reducible repeat (first | refine bR ?_ | refine bA ?_ _)); exact BK374.out) hb); have n2_ := aK (blk_below (g := gb375) (o := .cells #[.int .i64 0, .int .i64 0] 25 (0, 0)) (by (with_reducible repeat (first | refine bR ?_ | refine bA ?_ _)); exact BK375.out) hb); have n3_ := aK (below_step (by repeat (first | (with_reducible first | exact HB.out | apply hA | apply hN | apply hD | refine below_set ?_ GE373.out | refine below_set ?_ GE374.out | refine below_set ?_ GE375.out) | exact HB.out)) hb); clear BK373; clear BK374; clear BK375; clear HB; have BK373 := n0_; have BK374 := n1_; have BK375 := n2_; have HB := n3_; clear n0_ n1_ n2_ n3_; (try clear hb); (try clear hb2); (try clear hk); (try clear hi); have hnb114 := NB375_374.out; have hnc114 := NB374_375.out; have hcz115_0 : w113.cell? ⟨gb375, 0, none⟩ = some (.int .i64 0) := (blk_cell BK375.out 0).trans rfl; have hcz115_1 : w113.cell? ⟨gb375, 1, none⟩ = some (.int .i64 0) := (blk_cell BK375.out 1).trans rfl; have hfz115_0 := blk_frozen BK375.out 0; have hfz115_1 := blk_frozen BK375.out 1))
           refine bodyPost_ret (results_cell_row rfl _ _ gb375 25 #[.int .i64 t388, .int .i64 t389] (0, 0) _ rfl (by (with_reducible repeat (first | refine bR ?_ | refine bA ?_ _)); refine blk_put (cs := #[.int .i64 t388, .int .i64 0]) ?_ 1 _ rfl; (with_reducible repeat (first | refine bR ?_ | refine bA ?_ _)); refine blk_put (cs := #[.int .i64 0, .int .i64 0]) ?_ 0 _ rfl; (with_reducible repeat (first | refine bR ?_ | refine bA ?_ _)); exact BK375.out) Tryd.underlying25 rfl (by kernel_rfl)) rfl ?_
           exact ⟨by first | rfl | (simp [errW_none, errW_some] <;> rfl) | (simp only [← hji70, ← hji71]; first | rfl | (simp [errW_none, errW_some] <;> rfl)) | (simp [*, errW_none, errW_some] <;> rfl), by repeat (first | (with_reducible first | exact HB.out | apply hA | apply hN | apply hD | refine below_set ?_ GE373.out | refine below_set ?_ GE374.out | refine below_set ?_ GE375.out) | exact HB.out)⟩
end Go.Proofs.YtaphfmbloappkaaDoorG.PAll
