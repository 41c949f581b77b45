-- The walks of some functions, printed by a program for this claim.
import Derived.Test.YtaphfmbloappkaaDoorPAllx0
import Derived.Test.YtaphfmbloappkaaDoorPAllx2
import Derived.Test.YtaphfmbloappkaaDoorPAllx7
namespace Go.Proofs.YtaphfmbloappkaaDoorG.PAll
open Go.RowKit Go.Proofs.YtaphfmbloappkaaDoorW.PrintWords Go.Proofs.YtaphfmbloappkaaDoorW.PrintLast Go.Proofs.YtaphfmbloappkaaDoorW.PrintMore
attribute [local go_sem] max2_int min2_int max_two min_two max_three min_three max_four min_four   -- for this text's walks alone
set_option linter.unusedVariables false
set_option linter.unusedSimpArgs false
/-! ### congruence_Meet: function 23 -/
def congruence_Meet.f (k : Nat) (a0_0 : Int) (a0_1 : Int) (a1_0 : Int) (a1_1 : Int) : Option (Int × Int) := (congruence_Fix.f a0_0 a0_1).bind fun bt275 => ((congruence_Fix.f a1_0 a1_1).bind fun bt277 => ((congruence_Leq.f k bt275.1 bt275.2 bt277.1 bt277.2).bind fun t279 => (if t279 = true then (some (bt275.1, bt275.2)) else ((congruence_Leq.f k bt277.1 bt277.2 bt275.1 bt275.2).bind fun t280 => (if t280 = true then (some (bt277.1, bt277.2)) else ((congruence_None.f).bind fun bt281 => (some (bt281.1, bt281.2))))))))
theorem congruence_Meet.mono : ∀ a0 a1 a2 a3 k, LeO (congruence_Meet.f k a0 a1 a2 a3) (congruence_Meet.f (k + 1) a0 a1 a2 a3) := by
 intro a0 a1 a2 a3 k
 unfold congruence_Meet.f
 repeat' first
  | (with_reducible exact congruence_Leq.mono _ _ _ _ _)
  | (with_reducible exact LeO.refl _)
  | (with_reducible exact LeO.none _)
  | (with_reducible refine LeO.ite ?_ ?_)
  | (with_reducible refine LeO.bind ?_ (fun _ => ?_))
  | exact congruence_Leq.mono _ _ _ _ _
  | exact LeO.none _
  | refine LeO.ite ?_ ?_
  | refine LeO.bind ?_ (fun _ => ?_)
set_option maxHeartbeats 80000000 in
set_option maxRecDepth 100000 in
theorem congruence_Meet.calls (k : Nat) (a0_0 : Int) (a0_1 : Int) (a1_0 : Int) (a1_1 : Int) (r1 : Int) (r2 : Int) (w : World) (h : congruence_Meet.f k a0_0 a0_1 a1_0 a1_1 = some (r1, r2)) :
 Calls Tryd.prog 23 #[.agg #[.int .i64 a0_0, .int .i64 a0_1], .agg #[.int .i64 a1_0, .int .i64 a1_1]] w fun e w' => e = .returned (.agg #[.int .i64 r1, .int .i64 r2]) ∧ Below w.heap.size w w' := by
 have hu25 := Tryd.underlying25
 have HB := aK (Below.refl w.heap.size w)
 have H : ((congruence_Fix.f a0_0 a0_1).bind fun bt275 => ((congruence_Fix.f a1_0 a1_1).bind fun bt277 => ((congruence_Leq.f k bt275.1 bt275.2 bt277.1 bt277.2).bind fun t279 => (if t279 = true then (some (bt275.1, bt275.2)) else ((congruence_Leq.f k bt277.1 bt277.2 bt275.1 bt275.2).bind fun t280 => (if t280 = true then (some (bt277.1, bt277.2)) else ((congruence_None.f).bind fun bt281 => (some (bt281.1, bt281.2))))))))) = some (r1, r2) := h
 clear h
 replace H := Option.bind_eq_some_iff.mp H
 obtain ⟨⟨t275, t276⟩, A30, H⟩ := H
 replace H : ((congruence_Fix.f a1_0 a1_1).bind fun bt277 => ((congruence_Leq.f k t275 t276 bt277.1 bt277.2).bind fun t279 => (if t279 = true then (some (t275, t276)) else ((congruence_Leq.f k bt277.1 bt277.2 t275 t276).bind fun t280 => (if t280 = true then (some (bt277.1, bt277.2)) else ((congruence_None.f).bind fun bt281 => (some (bt281.1, bt281.2)))))))) = some (r1, r2) := H
 have A3 := aK A30
 clear A30
 replace H := Option.bind_eq_some_iff.mp H
 obtain ⟨⟨t277, t278⟩, A40, H⟩ := H
 replace H : ((congruence_Leq.f k t275 t276 t277 t278).bind fun t279 => (if t279 = true then (some (t275, t276)) else ((congruence_Leq.f k t277 t278 t275 t276).bind fun t280 => (if t280 = true then (some (t277, t278)) else ((congruence_None.f).bind fun bt281 => (some (bt281.1, bt281.2))))))) = some (r1, r2) := H
 have A4 := aK A40
 clear A40
 replace H := Option.bind_eq_some_iff.mp H
 obtain ⟨t279, A50, H⟩ := H
 replace H : (if t279 = true then (some (t275, t276)) else ((congruence_Leq.f k t277 t278 t275 t276).bind fun t280 => (if t280 = true then (some (t277, t278)) else ((congruence_None.f).bind fun bt281 => (some (bt281.1, bt281.2)))))) = some (r1, r2) := H
 have A5 := aK A50
 clear A50
 by_cases c6 : t279 = true
 · subst c6
   have H1 : (some (t275, t276)) = some (r1, r2) := by rw [if_pos rfl] at H; exact H
   clear H
   have H := H1
   clear H1
   simp only [Option.some.injEq, Prod.mk.injEq] at H
   obtain ⟨rfl, rfl⟩ := H
   go_enter Tryd.func23, Tryd.ntmps23
   try go_wp2_with (first | ((with_reducible refine gate_dst (N := 2) rfl ?_); refine box_event ?hg (N := 2) ?hd (cs := #[.int .i64 a0_0, .int .i64 a0_1]) (t := 25) ?hr ?_; (case hd => rfl); (case hg => rfl); (case hr => first | (go_simp; done) | (go_simp; rfl)); intro gb272 hg w7 hbox hb; have n0_ := aK (below_step (by repeat (first | (with_reducible first | exact HB.out | apply hA | apply hN | apply hD) | exact HB.out)) hb); have n1_ := aK (hbox); have n2_ := aK ((by rw [hg]; exact (below_size (by repeat (first | (with_reducible first | exact HB.out | apply hA | apply hN | apply hD) | exact HB.out))) : w.heap.size ≤ gb272)); have n3_ := aK ((by rw [hg]; exact (below_size (by repeat (first | (with_reducible first | exact HB.out | apply hA | apply hN | apply hD) | exact HB.out))) : w.heap.size ≤ gb272)); clear HB; have HB := n0_; have BK272 := n1_; have GW272 := n2_; have GE272 := n3_; clear n0_ n1_ n2_ n3_; clear hb hbox hg) | ((with_reducible refine gate_dst (N := 3) rfl ?_); refine box_event ?hg (N := 3) ?hd (cs := #[.int .i64 a1_0, .int .i64 a1_1]) (t := 25) ?hr ?_; (case hd => rfl); (case hg => rfl); (case hr => first | (go_simp; done) | (go_simp; rfl)); intro gb273 hg w8 hbox hb; have n0_ := aK (blk_below (g := gb272) (o := .cells #[.int .i64 a0_0, .int .i64 a0_1] 25 (0, 0)) (by (with_reducible repeat (first | refine bR ?_ | refine bA ?_ _)); exact BK272.out) hb); have n1_ := aK (below_step (by repeat (first | (with_reducible first | exact HB.out | apply hA | apply hN | apply hD | refine below_set ?_ GE272.out) | exact HB.out)) hb); have n2_ := aK (hbox); have n3_ := aK ((by rw [hg]; exact (below_size (by repeat (first | (with_reducible first | exact HB.out | apply hA | apply hN | apply hD | refine below_set ?_ GE272.out) | exact HB.out))) : w.heap.size ≤ gb273)); have n4_ := aK ((by rw [hg]; exact (below_size (by repeat (first | (with_reducible first | exact HB.out | apply hA | apply hN | apply hD | refine below_set ?_ GE272.out) | exact HB.out))) : w.heap.size ≤ gb273)); have n5_ := aK ((by rw [hg]; exact Nat.ne_of_lt (blk_lt (g := gb272) (o := .cells #[.int .i64 a0_0, .int .i64 a0_1] 25 (0, 0)) (by (with_reducible repeat (first | refine bR ?_ | refine bA ?_ _)); exact BK272.out)) : gb272 ≠ gb273)); have n6_ := aK ((by rw [hg]; exact Nat.ne_of_gt (blk_lt (g := gb272) (o := .cells #[.int .i64 a0_0, .int .i64 a0_1] 25 (0, 0)) (by (with_reducible repeat (first | refine bR ?_ | refine bA ?_ _)); exact BK272.out)) : gb273 ≠ gb272)); clear BK272; clear HB; have BK272 := n0_; have HB := n1_; have BK273 := n2_; have GW273 := n3_; have GE273 := n4_; have NB272_273 := n5_; have NB273_272 := n6_; clear n0_ n1_ n2_ n3_ n4_ n5_ n6_; clear hb hbox hg) | ((with_reducible refine gate_dst (N := 4) rfl ?_); refine box_event ?hg (N := 4) ?hd (cs := #[.int .i64 0, .int .i64 0]) (t := 25) ?hr ?_; (case hd => rfl); (case hg => rfl); (case hr => first | (go_simp; done) | (go_simp; rfl)); intro gb274 hg w9 hbox hb; have n0_ := aK (blk_below (g := gb272) (o := .cells #[.int .i64 a0_0, .int .i64 a0_1] 25 (0, 0)) (by (with_reducible repeat (first | refine bR ?_ | refine bA ?_ _)); exact BK272.out) hb); have n1_ := aK (blk_below (g := gb273) (o := .cells #[.int .i64 a1_0, .int .i64 a1_1] 25 (0, 0)) (by (with_reducible repeat (first | refine bR ?_ | refine bA ?_ _)); exact BK273.out) hb); have n2_ := aK (below_step (by repeat (first | (with_reducible first | exact HB.out | apply hA | apply hN | apply hD | refine below_set ?_ GE272.out | refine below_set ?_ GE273.out) | exact HB.out)) hb); have n3_ := aK (hbox); have n4_ := aK ((by rw [hg]; exact (below_size (by repeat (first | (with_reducible first | exact HB.out | apply hA | apply hN | apply hD | refine below_set ?_ GE272.out | refine below_set ?_ GE273.out) | exact HB.out))) : w.heap.size ≤ gb274)); have n5_ := aK ((by rw [hg]; exact (below_size (by repeat (first | (with_reducible first | exact HB.out | apply hA | apply hN | apply hD | refine below_set ?_ GE272.out | refine below_set ?_ GE273.out) | exact HB.out))) : w.heap.size ≤ gb274)); have n6_ := aK ((by rw [hg]; exact Nat.ne_of_lt (blk_lt (g := gb272) (o := .cells #[.int .i64 a0_0, .int .i64 a0_1] 25 (0, 0)) (by (with_reducible repeat (first | refine bR ?_ | refine bA ?_ _)); exact BK272.out)) : gb272 ≠ gb274)); have n7_ := aK ((by rw [hg]; exact Nat.ne_of_gt (blk_lt (g := gb272) (o := .cells #[.int .i64 a0_0, .int .i64 a0_1] 25 (0, 0)) (by (with_reducible repeat (first | refine bR ?_ | refine bA ?_ _)); exact BK272.out)) : gb274 ≠ gb272)); have n8_ := aK ((by rw [hg]; exact Nat.ne_of_lt (blk_lt (g := gb273) (o := .cells #[.int .i64 a1_0, .int .i64 a1_1] 25 (0, 0)) (by (with_reducible repeat (first | refine bR ?_ | refine bA ?_ _)); exact BK273.out)) : gb273 ≠ gb274)); have n9_ := aK ((by rw [hg]; exact Nat.ne_of_gt (blk_lt (g := gb273) (o := .cells #[.int .i64 a1_0, .int .i64 a1_1] 25 (0, 0)) (by (with_reducible repeat (first | refine bR ?_ | refine bA ?_ _)); exact BK273.out)) : gb274 ≠ gb273)); clear BK272; clear BK273; clear HB; have BK272 := n0_; have BK273 := n1_; have HB := n2_; have BK274 := n3_; have GW274 := n4_; have GE274 := n5_; have NB272_274 := n6_; have NB274_272 := n7_; have NB273_274 := n8_; have NB274_273 := n9_; clear n0_ n1_ n2_ n3_ n4_ n5_ n6_ n7_ n8_ n9_; clear hb hbox hg))
   have n0_ := aK (blk_drew BK272.out)
   have n1_ := aK (blk_drew BK273.out)
   have n2_ := aK (blk_drew BK274.out)
   have n3_ := aK (below_drew1 HB.out)
   clear BK272
   clear BK273
   clear BK274
   clear HB
   have BK272 := n0_
   have BK273 := n1_
   have BK274 := n2_
   have HB := n3_
   clear n0_ n1_ n2_ n3_
   refine start_ (n := 6) (S := fun w' => w'.cell? ⟨gb272, 0, none⟩ = some (.int .i64 a0_0) ∧ w'.cell? ⟨gb272, 1, none⟩ = some (.int .i64 a0_1) ∧ w'.cell? ⟨gb273, 0, none⟩ = some (.int .i64 a1_0) ∧ w'.cell? ⟨gb273, 1, none⟩ = some (.int .i64 a1_1)) (ds := [4, 5]) #[Z,Z,Z,Z,Z,Z] (by kernel_rfl) rfl rfl ⟨(blk_cell BK272.out 0).trans rfl, (blk_cell BK272.out 1).trans rfl, (blk_cell BK273.out 0).trans rfl, (blk_cell BK273.out 1).trans rfl⟩ (fun hHeld => ?_)
   generalize w9.drew = w10 at BK272 BK273 BK274 HB hHeld ⊢
   refine take_ (i := 0) (N := some 5) (v := ?_) (a' := ?_) #[Y,Z,Z,Z,Z,Z] rfl rfl (by kernel_rfl) (fun _ _ _ h => h) (Or.inl ⟨by rfl, ?_⟩) hHeld ?_ ?_
   rotate_left
   · rintro w' ⟨s0, s1, s2, s3⟩
     go_simp
     with_reducible rfl
   rotate_left
   · simp only [Act.put, sA, sB, sC, i64_w, i32_w]
     rfl
   refine take_ (i := 2) (N := some 7) (v := ?_) (a' := ?_) #[Y,Z,Y,Z,Z,Z] rfl rfl (by kernel_rfl) (fun _ _ _ h => h) (Or.inl ⟨by rfl, ?_⟩) hHeld ?_ ?_
   rotate_left
   · rintro w' ⟨s0, s1, s2, s3⟩
     go_simp
     with_reducible rfl
   rotate_left
   · simp only [Act.put, sA, sB, sC, i64_w, i32_w]
     rfl
   refine one_ (i := 1) (N := some 6) #[Y,Y,Y,Z,Z,Z] rfl rfl (by kernel_rfl) (by decide) (fun K hK => ?_)
   refine goes_ Tryd.func24 (by kernel_rfl) rfl #[.agg #[.int .i64 a0_0, .int .i64 a0_1]] (by rfl) rfl rfl (by (try simp only [mA, mB, mC]); first | done | rfl) ?_
   with_reducible refine (congruence_Fix.calls a0_0 a0_1 t275 t276 _ A3.out).mono ?_
   rintro e w11 ⟨rfl, hb⟩
   refine ⟨_, rfl, ?_⟩
   have n0_ := aK (blk_below (g := gb272) (o := .cells #[.int .i64 a0_0, .int .i64 a0_1] 25 (0, 0)) (by (with_reducible repeat (first | refine bR ?_ | refine bA ?_ _)); exact BK272.out) hb)
   have n1_ := aK (blk_below (g := gb273) (o := .cells #[.int .i64 a1_0, .int .i64 a1_1] 25 (0, 0)) (by (with_reducible repeat (first | refine bR ?_ | refine bA ?_ _)); exact BK273.out) hb)
   have n2_ := aK (blk_below (g := gb274) (o := .cells #[.int .i64 0, .int .i64 0] 25 (0, 0)) (by (with_reducible repeat (first | refine bR ?_ | refine bA ?_ _)); exact BK274.out) hb)
   have n3_ := aK (below_step (by repeat (first | (with_reducible first | exact HB.out | apply hA | apply hN | apply hD | refine below_set ?_ GE272.out | refine below_set ?_ GE273.out | refine below_set ?_ GE274.out) | exact HB.out)) hb)
   clear BK272
   clear BK273
   clear BK274
   clear HB
   have BK272 := n0_
   have BK273 := n1_
   have BK274 := n2_
   have HB := n3_
   clear n0_ n1_ n2_ n3_
   (try clear hb)
   (try clear hb2)
   (try clear hk)
   (try clear hi)
   refine hK.out _ _ ⟨(blk_cell BK272.out 0).trans rfl, (blk_cell BK272.out 1).trans rfl, (blk_cell BK273.out 0).trans rfl, (blk_cell BK273.out 1).trans rfl⟩ (fun hHeld => ?_)
   clear hK K
   refine norm_ (a' := ?_) ?_ ?_
   rotate_left
   · show Act.put _ (some 6) _ = _
     simp only [Act.put, sA, sB, sC, i64_w, i32_w]
     rfl
   refine one_ (i := 3) (N := some 8) #[Y,Y,Y,Y,Z,Z] rfl rfl (by kernel_rfl) (by decide) (fun K hK => ?_)
   refine goes_ Tryd.func24 (by kernel_rfl) rfl #[.agg #[.int .i64 a1_0, .int .i64 a1_1]] (by rfl) rfl rfl (by (try simp only [mA, mB, mC]); first | done | rfl) ?_
   with_reducible refine (congruence_Fix.calls a1_0 a1_1 t277 t278 _ A4.out).mono ?_
   rintro e w12 ⟨rfl, hb⟩
   refine ⟨_, rfl, ?_⟩
   have n0_ := aK (blk_below (g := gb272) (o := .cells #[.int .i64 a0_0, .int .i64 a0_1] 25 (0, 0)) (by (with_reducible repeat (first | refine bR ?_ | refine bA ?_ _)); exact BK272.out) hb)
   have n1_ := aK (blk_below (g := gb273) (o := .cells #[.int .i64 a1_0, .int .i64 a1_1] 25 (0, 0)) (by (with_reducible repeat (first | refine bR ?_ | refine bA ?_ _)); exact BK273.out) hb)
   have n2_ := aK (blk_below (g := gb274) (o := .cells #[.int .i64 0, .int .i64 0] 25 (0, 0)) (by (with_reducible repeat (first | refine bR ?_ | refine bA ?_ _)); exact BK274.out) hb)
   have n3_ := aK (below_step (by repeat (first | (with_reducible first | exact HB.out | apply hA | apply hN | apply hD | refine below_set ?_ GE272.out | refine below_set ?_ GE273.out | refine below_set ?_ GE274.out) | exact HB.out)) hb)
   clear BK272
   clear BK273
   clear BK274
   clear HB
   have BK272 := n0_
   have BK273 := n1_
   have BK274 := n2_
   have HB := n3_
   clear n0_ n1_ n2_ n3_
   (try clear hb)
   (try clear hb2)
   (try clear hk)
   (try clear hi)
   refine hK.out _ _ ⟨(blk_cell BK272.out 0).trans rfl, (blk_cell BK272.out 1).trans rfl, (blk_cell BK273.out 0).trans rfl, (blk_cell BK273.out 1).trans rfl⟩ (fun hHeld => ?_)
   clear hK K
   refine norm_ (a' := ?_) ?_ ?_
   rotate_left
   · show Act.put _ (some 8) _ = _
     simp only [Act.put, sA, sB, sC, i64_w, i32_w]
     rfl
   refine last_ (i := 4) (N := none) #[Y,Y,Y,Y,Y,Z] rfl rfl (by kernel_rfl) (by decide) (fun K hK => ?_)
   have hs13 : w12.cell? ⟨gb272, 0, none⟩ = some (.int .i64 a0_0) := (blk_cell BK272.out 0).trans rfl
   have hfs13 := blk_frozen BK272.out 0
   have hns13_1 := NB273_272.out
   have hns13_2 := NB274_272.out
   have hms13_1 := NB272_273.out
   have hms13_2 := NB272_274.out
   have hs14 : w12.cell? ⟨gb272, 1, none⟩ = some (.int .i64 a0_1) := (blk_cell BK272.out 1).trans rfl
   have hfs14 := blk_frozen BK272.out 1
   have hns14_1 := NB273_272.out
   have hns14_2 := NB274_272.out
   have hms14_1 := NB272_273.out
   have hms14_2 := NB272_274.out
   refine skip_ (w1 := ?_) (by rfl) rfl ?_ ?_
   rotate_left
   · go_simp
     rfl
   refine hK.out _ _ ?_
   clear hK K
   refine last_ (i := 5) (N := none) #[Y,Y,Y,Y,Y,Y] rfl rfl (by kernel_rfl) (by decide) (fun K hK => ?_)
   have hs15 : w12.cell? ⟨gb273, 0, none⟩ = some (.int .i64 a1_0) := (blk_cell BK273.out 0).trans rfl
   have hfs15 := blk_frozen BK273.out 0
   have hns15_0 := NB272_273.out
   have hns15_2 := NB274_273.out
   have hms15_0 := NB273_272.out
   have hms15_2 := NB273_274.out
   have hs16 : w12.cell? ⟨gb273, 1, none⟩ = some (.int .i64 a1_1) := (blk_cell BK273.out 1).trans rfl
   have hfs16 := blk_frozen BK273.out 1
   have hns16_0 := NB272_273.out
   have hns16_2 := NB274_273.out
   have hms16_0 := NB273_272.out
   have hms16_2 := NB273_274.out
   refine skip_ (w1 := ?_) (by rfl) rfl ?_ ?_
   rotate_left
   · go_simp
     rfl
   refine hK.out _ _ ?_
   clear hK K
   refine done_ (by kernel_rfl) ?_
   have hnb17 := NB272_273.out
   have hnc17 := NB273_272.out
   have hnb18 := NB272_274.out
   have hnc18 := NB274_272.out
   have hcz19_0 : w12.cell? ⟨gb272, 0, none⟩ = some (.int .i64 a0_0) := (blk_cell BK272.out 0).trans rfl
   have hcz19_1 : w12.cell? ⟨gb272, 1, none⟩ = some (.int .i64 a0_1) := (blk_cell BK272.out 1).trans rfl
   have hfz19_0 := blk_frozen BK272.out 0
   have hfz19_1 := blk_frozen BK272.out 1
   have hnb20 := NB273_274.out
   have hnc20 := NB274_273.out
   have hcz21_0 : w12.cell? ⟨gb273, 0, none⟩ = some (.int .i64 a1_0) := (blk_cell BK273.out 0).trans rfl
   have hcz21_1 : w12.cell? ⟨gb273, 1, none⟩ = some (.int .i64 a1_1) := (blk_cell BK273.out 1).trans rfl
   have hfz21_0 := blk_frozen BK273.out 0
   have hfz21_1 := blk_frozen BK273.out 1
   try go_wp2_with (first | ((with_reducible refine gate_callee (f := 17) rfl ?_); refine goesL_ (some 12) rfl rfl Tryd.func17 (by kernel_rfl) rfl #[.agg #[.int .i64 t275, .int .i64 t276], .agg #[.int .i64 t277, .int .i64 t278]] rfl (by (try simp only [mA, mB, mC]); first | done | rfl) ?_; (with_reducible refine (congruence_Leq.calls k t275 t276 t277 t278 true _ A5.out).mono ?_); rintro e w22 ⟨rfl, hb⟩; refine ⟨_, rfl, ?_⟩; have n0_ := aK (blk_below (g := gb272) (o := .cells #[.int .i64 t275, .int .i64 t276] 25 (0, 0)) (by (with_reducible repeat (first | refine bR ?_ | refine bA ?_ _)); refine blk_far ?_ NB272_273.out _; (with_reducible repeat (first | refine bR ?_ | refine bA ?_ _)); refine blk_far ?_ NB272_273.out _; (with_reducible repeat (first | refine bR ?_ | refine bA ?_ _)); refine blk_put (cs := #[.int .i64 t275, .int .i64 a0_1]) ?_ 1 _ rfl; (with_reducible repeat (first | refine bR ?_ | refine bA ?_ _)); refine blk_put (cs := #[.int .i64 a0_0, .int .i64 a0_1]) ?_ 0 _ rfl; (with_reducible repeat (first | refine bR ?_ | refine bA ?_ _)); exact BK272.out) hb); have n1_ := aK (blk_below (g := gb273) (o := .cells #[.int .i64 t277, .int .i64 t278] 25 (0, 0)) (by (with_reducible repeat (first | refine bR ?_ | refine bA ?_ _)); refine blk_put (cs := #[.int .i64 t277, .int .i64 a1_1]) ?_ 1 _ rfl; (with_reducible repeat (first | refine bR ?_ | refine bA ?_ _)); refine blk_put (cs := #[.int .i64 a1_0, .int .i64 a1_1]) ?_ 0 _ rfl; (with_reducible repeat (first | refine bR ?_ | refine bA ?_ _)); refine blk_far ?_ NB273_272.out _; (with_reducible repeat (first | refine bR ?_ | refine bA ?_ _)); refine blk_far ?_ NB273_272.out _; (with_reducible repeat (first | refine bR ?_ | refine bA ?_ _)); exact BK273.out) hb); have n2_ := aK (blk_below (g := gb274) (o := .cells #[.int .i64 0, .int .i64 0] 25 (0, 0)) (by (with_reducible repeat (first | refine bR ?_ | refine bA ?_ _)); refine blk_far ?_ NB274_273.out _; (with_reducible repeat (first | refine bR ?_ | refine bA ?_ _)); refine blk_far ?_ NB274_273.out _; (with_reducible repeat (first | refine bR ?_ | refine bA ?_ _)); refine blk_far ?_ NB274_272.out _; (with_reducible repeat (first | refine bR ?_ | refine bA ?_ _)); refine blk_far ?_ NB274_272.out _; (with_reducible repeat (first | refine bR ?_ | refine bA ?_ _)); exact BK274.out) hb); have n3_ := aK (below_step (by repeat (first | (with_reducible first | exact HB.out | apply hA | apply hN | apply hD | refine below_set ?_ GE272.out | refine below_set ?_ GE273.out | refine below_set ?_ GE274.out) | exact HB.out)) hb); clear BK272; clear BK273; clear BK274; clear HB; have BK272 := n0_; have BK273 := n1_; have BK274 := n2_; have HB := n3_; clear n0_ n1_ n2_ n3_; (try clear hb); (try clear hb2); (try clear hk); (try clear hi); have hcz23_0 : w22.cell? ⟨gb272, 0, none⟩ = some (.int .i64 t275) := (blk_cell BK272.out 0).trans rfl; have hcz23_1 : w22.cell? ⟨gb272, 1, none⟩ = some (.int .i64 t276) := (blk_cell BK272.out 1).trans rfl; have hfz23_0 := blk_frozen BK272.out 0; have hfz23_1 := blk_frozen BK272.out 1; have hcz24_0 : w22.cell? ⟨gb274, 0, none⟩ = some (.int .i64 0) := (blk_cell BK274.out 0).trans rfl; have hcz24_1 : w22.cell? ⟨gb274, 1, none⟩ = some (.int .i64 0) := (blk_cell BK274.out 1).trans rfl; have hfz24_0 := blk_frozen BK274.out 0; have hfz24_1 := blk_frozen BK274.out 1))
   refine bodyPost_ret (results_cell_row rfl _ _ gb274 25 #[.int .i64 t275, .int .i64 t276] (0, 0) _ rfl (by (with_reducible repeat (first | refine bR ?_ | refine bA ?_ _)); refine blk_put (cs := #[.int .i64 t275, .int .i64 0]) ?_ 1 _ rfl; (with_reducible repeat (first | refine bR ?_ | refine bA ?_ _)); refine blk_put (cs := #[.int .i64 0, .int .i64 0]) ?_ 0 _ rfl; (with_reducible repeat (first | refine bR ?_ | refine bA ?_ _)); exact BK274.out) Tryd.underlying25 rfl (by kernel_rfl)) rfl ?_
   exact ⟨by first | rfl | (simp [errW_none, errW_some] <;> rfl) | (simp [*, errW_none, errW_some] <;> rfl), by repeat (first | (with_reducible first | exact HB.out | apply hA | apply hN | apply hD | refine below_set ?_ GE272.out | refine below_set ?_ GE273.out | refine below_set ?_ GE274.out) | exact HB.out)⟩
 · replace c6 := Bool.eq_false_iff.mpr c6
   subst c6
   have H1 : ((congruence_Leq.f k t277 t278 t275 t276).bind fun t280 => (if t280 = true then (some (t277, t278)) else ((congruence_None.f).bind fun bt281 => (some (bt281.1, bt281.2))))) = some (r1, r2) := by rw [if_neg (show ¬ (false = true) by decide)] at H; exact H
   clear H
   have H := H1
   clear H1
   replace H := Option.bind_eq_some_iff.mp H
   obtain ⟨t280, A250, H⟩ := H
   replace H : (if t280 = true then (some (t277, t278)) else ((congruence_None.f).bind fun bt281 => (some (bt281.1, bt281.2)))) = some (r1, r2) := H
   have A25 := aK A250
   clear A250
   by_cases c26 : t280 = true
   · subst c26
     have H1 : (some (t277, t278)) = some (r1, r2) := by rw [if_pos rfl] at H; exact H
     clear H
     have H := H1
     clear H1
     simp only [Option.some.injEq, Prod.mk.injEq] at H
     obtain ⟨rfl, rfl⟩ := H
     go_enter Tryd.func23, Tryd.ntmps23
     try go_wp2_with (first | ((with_reducible refine gate_dst (N := 2) rfl ?_); refine box_event ?hg (N := 2) ?hd (cs := #[.int .i64 a0_0, .int .i64 a0_1]) (t := 25) ?hr ?_; (case hd => rfl); (case hg => rfl); (case hr => first | (go_simp; done) | (go_simp; rfl)); intro gb272 hg w27 hbox hb; have n0_ := aK (below_step (by repeat (first | (with_reducible first | exact HB.out | apply hA | apply hN | apply hD) | exact HB.out)) hb); have n1_ := aK (hbox); have n2_ := aK ((by rw [hg]; exact (below_size (by repeat (first | (with_reducible first | exact HB.out | apply hA | apply hN | apply hD) | exact HB.out))) : w.heap.size ≤ gb272)); have n3_ := aK ((by rw [hg]; exact (below_size (by repeat (first | (with_reducible first | exact HB.out | apply hA | apply hN | apply hD) | exact HB.out))) : w.heap.size ≤ gb272)); clear HB; have HB := n0_; have BK272 := n1_; have GW272 := n2_; have GE272 := n3_; clear n0_ n1_ n2_ n3_; clear hb hbox hg) | ((with_reducible refine gate_dst (N := 3) rfl ?_); refine box_event ?hg (N := 3) ?hd (cs := #[.int .i64 a1_0, .int .i64 a1_1]) (t := 25) ?hr ?_; (case hd => rfl); (case hg => rfl); (case hr => first | (go_simp; done) | (go_simp; rfl)); intro gb273 hg w28 hbox hb; have n0_ := aK (blk_below (g := gb272) (o := .cells #[.int .i64 a0_0, .int .i64 a0_1] 25 (0, 0)) (by (with_reducible repeat (first | refine bR ?_ | refine bA ?_ _)); exact BK272.out) hb); have n1_ := aK (below_step (by repeat (first | (with_reducible first | exact HB.out | apply hA | apply hN | apply hD | refine below_set ?_ GE272.out) | exact HB.out)) hb); have n2_ := aK (hbox); have n3_ := aK ((by rw [hg]; exact (below_size (by repeat (first | (with_reducible first | exact HB.out | apply hA | apply hN | apply hD | refine below_set ?_ GE272.out) | exact HB.out))) : w.heap.size ≤ gb273)); have n4_ := aK ((by rw [hg]; exact (below_size (by repeat (first | (with_reducible first | exact HB.out | apply hA | apply hN | apply hD | refine below_set ?_ GE272.out) | exact HB.out))) : w.heap.size ≤ gb273)); have n5_ := aK ((by rw [hg]; exact Nat.ne_of_lt (blk_lt (g := gb272) (o := .cells #[.int .i64 a0_0, .int .i64 a0_1] 25 (0, 0)) (by (with_reducible repeat (first | refine bR ?_ | refine bA ?_ _)); exact BK272.out)) : gb272 ≠ gb273)); have n6_ := aK ((by rw [hg]; exact Nat.ne_of_gt (blk_lt (g := gb272) (o := .cells #[.int .i64 a0_0, .int .i64 a0_1] 25 (0, 0)) (by (with_reducible repeat (first | refine bR ?_ | refine bA ?_ _)); exact BK272.out)) : gb273 ≠ gb272)); clear BK272; clear HB; have BK272 := n0_; have HB := n1_; have BK273 := n2_; have GW273 := n3_; have GE273 := n4_; have NB272_273 := n5_; have NB273_272 := n6_; clear n0_ n1_ n2_ n3_ n4_ n5_ n6_; clear hb hbox hg) | ((with_reducible refine gate_dst (N := 4) rfl ?_); refine box_event ?hg (N := 4) ?hd (cs := #[.int .i64 0, .int .i64 0]) (t := 25) ?hr ?_; (case hd => rfl); (case hg => rfl); (case hr => first | (go_simp; done) | (go_simp; rfl)); intro gb274 hg w29 hbox hb; have n0_ := aK (blk_below (g := gb272) (o := .cells #[.int .i64 a0_0, .int .i64 a0_1] 25 (0, 0)) (by (with_reducible repeat (first | refine bR ?_ | refine bA ?_ _)); exact BK272.out) hb); have n1_ := aK (blk_below (g := gb273) (o := .cells #[.int .i64 a1_0, .int .i64 a1_1] 25 (0, 0)) (by (with_reducible repeat (first | refine bR ?_ | refine bA ?_ _)); exact BK273.out) hb); have n2_ := aK (below_step (by repeat (first | (with_reducible first | exact HB.out | apply hA | apply hN | apply hD | refine below_set ?_ GE272.out | refine below_set ?_ GE273.out) | exact HB.out)) hb); have n3_ := aK (hbox); have n4_ := aK ((by rw [hg]; exact (below_size (by repeat (first | (with_reducible first | exact HB.out | apply hA | apply hN | apply hD | refine below_set ?_ GE272.out | refine below_set ?_ GE273.out) | exact HB.out))) : w.heap.size ≤ gb274)); have n5_ := aK ((by rw [hg]; exact (below_size (by repeat (first | (with_reducible first | exact HB.out | apply hA | apply hN | apply hD | refine below_set ?_ GE272.out | refine below_set ?_ GE273.out) | exact HB.out))) : w.heap.size ≤ gb274)); have n6_ := aK ((by rw [hg]; exact Nat.ne_of_lt (blk_lt (g := gb272) (o := .cells #[.int .i64 a0_0, .int .i64 a0_1] 25 (0, 0)) (by (with_reducible repeat (first | refine bR ?_ | refine bA ?_ _)); exact BK272.out)) : gb272 ≠ gb274)); have n7_ := aK ((by rw [hg]; exact Nat.ne_of_gt (blk_lt (g := gb272) (o := .cells #[.int .i64 a0_0, .int .i64 a0_1] 25 (0, 0)) (by (with_reducible repeat (first | refine bR ?_ | refine bA ?_ _)); exact BK272.out)) : gb274 ≠ gb272)); have n8_ := aK ((by rw [hg]; exact Nat.ne_of_lt (blk_lt (g := gb273) (o := .cells #[.int .i64 a1_0, .int .i64 a1_1] 25 (0, 0)) (by (with_reducible repeat (first | refine bR ?_ | refine bA ?_ _)); exact BK273.out)) : gb273 ≠ gb274)); have n9_ := aK ((by rw [hg]; exact Nat.ne_of_gt (blk_lt (g := gb273) (o := .cells #[.int .i64 a1_0, .int .i64 a1_1] 25 (0, 0)) (by (with_reducible repeat (first | refine bR ?_ | refine bA ?_ _)); exact BK273.out)) : gb274 ≠ gb273)); clear BK272; clear BK273; clear HB; have BK272 := n0_; have BK273 := n1_; have HB := n2_; have BK274 := n3_; have GW274 := n4_; have GE274 := n5_; have NB272_274 := n6_; have NB274_272 := n7_; have NB273_274 := n8_; have NB274_273 := n9_; clear n0_ n1_ n2_ n3_ n4_ n5_ n6_ n7_ n8_ n9_; clear hb hbox hg))
     have n0_ := aK (blk_drew BK272.out)
     have n1_ := aK (blk_drew BK273.out)
     have n2_ := aK (blk_drew BK274.out)
     have n3_ := aK (below_drew1 HB.out)
     clear BK272
     clear BK273
     clear BK274
     clear HB
     have BK272 := n0_
     have BK273 := n1_
     have BK274 := n2_
     have HB := n3_
     clear n0_ n1_ n2_ n3_
     refine start_ (n := 6) (S := fun w' => w'.cell? ⟨gb272, 0, none⟩ = some (.int .i64 a0_0) ∧ w'.cell? ⟨gb272, 1, none⟩ = some (.int .i64 a0_1) ∧ w'.cell? ⟨gb273, 0, none⟩ = some (.int .i64 a1_0) ∧ w'.cell? ⟨gb273, 1, none⟩ = some (.int .i64 a1_1)) (ds := [4, 5]) #[Z,Z,Z,Z,Z,Z] (by kernel_rfl) rfl rfl ⟨(blk_cell BK272.out 0).trans rfl, (blk_cell BK272.out 1).trans rfl, (blk_cell BK273.out 0).trans rfl, (blk_cell BK273.out 1).trans rfl⟩ (fun hHeld => ?_)
     generalize w29.drew = w30 at BK272 BK273 BK274 HB hHeld ⊢
     refine take_ (i := 0) (N := some 5) (v := ?_) (a' := ?_) #[Y,Z,Z,Z,Z,Z] rfl rfl (by kernel_rfl) (fun _ _ _ h => h) (Or.inl ⟨by rfl, ?_⟩) hHeld ?_ ?_
     rotate_left
     · rintro w' ⟨s0, s1, s2, s3⟩
       go_simp
       with_reducible rfl
     rotate_left
     · simp only [Act.put, sA, sB, sC, i64_w, i32_w]
       rfl
     refine take_ (i := 2) (N := some 7) (v := ?_) (a' := ?_) #[Y,Z,Y,Z,Z,Z] rfl rfl (by kernel_rfl) (fun _ _ _ h => h) (Or.inl ⟨by rfl, ?_⟩) hHeld ?_ ?_
     rotate_left
     · rintro w' ⟨s0, s1, s2, s3⟩
       go_simp
       with_reducible rfl
     rotate_left
     · simp only [Act.put, sA, sB, sC, i64_w, i32_w]
       rfl
     refine one_ (i := 1) (N := some 6) #[Y,Y,Y,Z,Z,Z] rfl rfl (by kernel_rfl) (by decide) (fun K hK => ?_)
     refine goes_ Tryd.func24 (by kernel_rfl) rfl #[.agg #[.int .i64 a0_0, .int .i64 a0_1]] (by rfl) rfl rfl (by (try simp only [mA, mB, mC]); first | done | rfl) ?_
     with_reducible refine (congruence_Fix.calls a0_0 a0_1 t275 t276 _ A3.out).mono ?_
     rintro e w31 ⟨rfl, hb⟩
     refine ⟨_, rfl, ?_⟩
     have n0_ := aK (blk_below (g := gb272) (o := .cells #[.int .i64 a0_0, .int .i64 a0_1] 25 (0, 0)) (by (with_reducible repeat (first | refine bR ?_ | refine bA ?_ _)); exact BK272.out) hb)
     have n1_ := aK (blk_below (g := gb273) (o := .cells #[.int .i64 a1_0, .int .i64 a1_1] 25 (0, 0)) (by (with_reducible repeat (first | refine bR ?_ | refine bA ?_ _)); exact BK273.out) hb)
     have n2_ := aK (blk_below (g := gb274) (o := .cells #[.int .i64 0, .int .i64 0] 25 (0, 0)) (by (with_reducible repeat (first | refine bR ?_ | refine bA ?_ _)); exact BK274.out) hb)
     have n3_ := aK (below_step (by repeat (first | (with_reducible first | exact HB.out | apply hA | apply hN | apply hD | refine below_set ?_ GE272.out | refine below_set ?_ GE273.out | refine below_set ?_ GE274.out) | exact HB.out)) hb)
     clear BK272
     clear BK273
     clear BK274
     clear HB
     have BK272 := n0_
     have BK273 := n1_
     have BK274 := n2_
     have HB := n3_
     clear n0_ n1_ n2_ n3_
     (try clear hb)
     (try clear hb2)
     (try clear hk)
     (try clear hi)
     refine hK.out _ _ ⟨(blk_cell BK272.out 0).trans rfl, (blk_cell BK272.out 1).trans rfl, (blk_cell BK273.out 0).trans rfl, (blk_cell BK273.out 1).trans rfl⟩ (fun hHeld => ?_)
     clear hK K
     refine norm_ (a' := ?_) ?_ ?_
     rotate_left
     · show Act.put _ (some 6) _ = _
       simp only [Act.put, sA, sB, sC, i64_w, i32_w]
       rfl
     refine one_ (i := 3) (N := some 8) #[Y,Y,Y,Y,Z,Z] rfl rfl (by kernel_rfl) (by decide) (fun K hK => ?_)
     refine goes_ Tryd.func24 (by kernel_rfl) rfl #[.agg #[.int .i64 a1_0, .int .i64 a1_1]] (by rfl) rfl rfl (by (try simp only [mA, mB, mC]); first | done | rfl) ?_
     with_reducible refine (congruence_Fix.calls a1_0 a1_1 t277 t278 _ A4.out).mono ?_
     rintro e w32 ⟨rfl, hb⟩
     refine ⟨_, rfl, ?_⟩
     have n0_ := aK (blk_below (g := gb272) (o := .cells #[.int .i64 a0_0, .int .i64 a0_1] 25 (0, 0)) (by (with_reducible repeat (first | refine bR ?_ | refine bA ?_ _)); exact BK272.out) hb)
     have n1_ := aK (blk_below (g := gb273) (o := .cells #[.int .i64 a1_0, .int .i64 a1_1] 25 (0, 0)) (by (with_reducible repeat (first | refine bR ?_ | refine bA ?_ _)); exact BK273.out) hb)
     have n2_ := aK (blk_below (g := gb274) (o := .cells #[.int .i64 0, .int .i64 0] 25 (0, 0)) (by (with_reducible repeat (first | refine bR ?_ | refine bA ?_ _)); exact BK274.out) hb)
     have n3_ := aK (below_step (by repeat (first | (with_reducible first | exact HB.out | apply hA | apply hN | apply hD | refine below_set ?_ GE272.out | refine below_set ?_ GE273.out | refine below_set ?_ GE274.out) | exact HB.out)) hb)
     clear BK272
     clear BK273
     clear BK274
     clear HB
     have BK272 := n0_
     have BK273 := n1_
     have BK274 := n2_
     have HB := n3_
     clear n0_ n1_ n2_ n3_
     (try clear hb)
     (try clear hb2)
     (try clear hk)
     (try clear hi)
     refine hK.out _ _ ⟨(blk_cell BK272.out 0).trans rfl, (blk_cell BK272.out 1).trans rfl, (blk_cell BK273.out 0).trans rfl, (blk_cell BK273.out 1).trans rfl⟩ (fun hHeld => ?_)
     clear hK K
     refine norm_ (a' := ?_) ?_ ?_
     rotate_left
     · show Act.put _ (some 8) _ = _
       simp only [Act.put, sA, sB, sC, i64_w, i32_w]
       rfl
     refine last_ (i := 4) (N := none) #[Y,Y,Y,Y,Y,Z] rfl rfl (by kernel_rfl) (by decide) (fun K hK => ?_)
     have hs33 : w32.cell? ⟨gb272, 0, none⟩ = some (.int .i64 a0_0) := (blk_cell BK272.out 0).trans rfl
     have hfs33 := blk_frozen BK272.out 0
     have hns33_1 := NB273_272.out
     have hns33_2 := NB274_272.out
     have hms33_1 := NB272_273.out
     have hms33_2 := NB272_274.out
     have hs34 : w32.cell? ⟨gb272, 1, none⟩ = some (.int .i64 a0_1) := (blk_cell BK272.out 1).trans rfl
     have hfs34 := blk_frozen BK272.out 1
     have hns34_1 := NB273_272.out
     have hns34_2 := NB274_272.out
     have hms34_1 := NB272_273.out
     have hms34_2 := NB272_274.out
     refine skip_ (w1 := ?_) (by rfl) rfl ?_ ?_
     rotate_left
     · go_simp
       rfl
     refine hK.out _ _ ?_
     clear hK K
     refine last_ (i := 5) (N := none) #[Y,Y,Y,Y,Y,Y] rfl rfl (by kernel_rfl) (by decide) (fun K hK => ?_)
     have hs35 : w32.cell? ⟨gb273, 0, none⟩ = some (.int .i64 a1_0) := (blk_cell BK273.out 0).trans rfl
     have hfs35 := blk_frozen BK273.out 0
     have hns35_0 := NB272_273.out
     have hns35_2 := NB274_273.out
     have hms35_0 := NB273_272.out
     have hms35_2 := NB273_274.out
     have hs36 : w32.cell? ⟨gb273, 1, none⟩ = some (.int .i64 a1_1) := (blk_cell BK273.out 1).trans rfl
     have hfs36 := blk_frozen BK273.out 1
     have hns36_0 := NB272_273.out
     have hns36_2 := NB274_273.out
     have hms36_0 := NB273_272.out
     have hms36_2 := NB273_274.out
     refine skip_ (w1 := ?_) (by rfl) rfl ?_ ?_
     rotate_left
     · go_simp
       rfl
     refine hK.out _ _ ?_
     clear hK K
     refine done_ (by kernel_rfl) ?_
     have hnb37 := NB272_273.out
     have hnc37 := NB273_272.out
     have hnb38 := NB272_274.out
     have hnc38 := NB274_272.out
     have hcz39_0 : w32.cell? ⟨gb272, 0, none⟩ = some (.int .i64 a0_0) := (blk_cell BK272.out 0).trans rfl
     have hcz39_1 : w32.cell? ⟨gb272, 1, none⟩ = some (.int .i64 a0_1) := (blk_cell BK272.out 1).trans rfl
     have hfz39_0 := blk_frozen BK272.out 0
     have hfz39_1 := blk_frozen BK272.out 1
     have hnb40 := NB273_274.out
     have hnc40 := NB274_273.out
     have hcz41_0 : w32.cell? ⟨gb273, 0, none⟩ = some (.int .i64 a1_0) := (blk_cell BK273.out 0).trans rfl
     have hcz41_1 : w32.cell? ⟨gb273, 1, none⟩ = some (.int .i64 a1_1) := (blk_cell BK273.out 1).trans rfl
     have hfz41_0 := blk_frozen BK273.out 0
     have hfz41_1 := blk_frozen BK273.out 1
     try go_wp2_with (first | ((with_reducible refine gate_callee (f := 17) rfl ?_); refine goesL_ (some 12) rfl rfl Tryd.func17 (by kernel_rfl) rfl #[.agg #[.int .i64 t275, .int .i64 t276], .agg #[.int .i64 t277, .int .i64 t278]] rfl (by (try simp only [mA, mB, mC]); first | done | rfl) ?_; (with_reducible refine (congruence_Leq.calls k t275 t276 t277 t278 false _ A5.out).mono ?_); rintro e w42 ⟨rfl, hb⟩; refine ⟨_, rfl, ?_⟩; have n0_ := aK (blk_below (g := gb272) (o := .cells #[.int .i64 t275, .int .i64 t276] 25 (0, 0)) (by (with_reducible repeat (first | refine bR ?_ | refine bA ?_ _)); refine blk_far ?_ NB272_273.out _; (with_reducible repeat (first | refine bR ?_ | refine bA ?_ _)); refine blk_far ?_ NB272_273.out _; (with_reducible repeat (first | refine bR ?_ | refine bA ?_ _)); refine blk_put (cs := #[.int .i64 t275, .int .i64 a0_1]) ?_ 1 _ rfl; (with_reducible repeat (first | refine bR ?_ | refine bA ?_ _)); refine blk_put (cs := #[.int .i64 a0_0, .int .i64 a0_1]) ?_ 0 _ rfl; (with_reducible repeat (first | refine bR ?_ | refine bA ?_ _)); exact BK272.out) hb); have n1_ := aK (blk_below (g := gb273) (o := .cells #[.int .i64 t277, .int .i64 t278] 25 (0, 0)) (by (with_reducible repeat (first | refine bR ?_ | refine bA ?_ _)); refine blk_put (cs := #[.int .i64 t277, .int .i64 a1_1]) ?_ 1 _ rfl; (with_reducible repeat (first | refine bR ?_ | refine bA ?_ _)); refine blk_put (cs := #[.int .i64 a1_0, .int .i64 a1_1]) ?_ 0 _ rfl; (with_reducible repeat (first | refine bR ?_ | refine bA ?_ _)); refine blk_far ?_ NB273_272.out _; (with_reducible repeat (first | refine bR ?_ | refine bA ?_ _)); refine blk_far ?_ NB273_272.out _; (with_reducible repeat (first | refine bR ?_ | refine bA ?_ _)); exact BK273.out) hb); have n2_ := aK (blk_below (g := gb274) (o := .cells #[.int .i64 0, .int .i64 0] 25 (0, 0)) (by (with_reducible repeat (first | refine bR ?_ | refine bA ?_ _)); refine blk_far ?_ NB274_273.out _; (with_reducible repeat (first | refine bR ?_ | refine bA ?_ _)); refine blk_far ?_ NB274_273.out _; (with_reducible repeat (first | refine bR ?_ | refine bA ?_ _)); refine blk_far ?_ NB274_272.out _; (with_reducible repeat (first | refine bR ?_ | refine bA ?_ _)); refine blk_far ?_ NB274_272.out _; (with_reducible repeat (first | refine bR ?_ | refine bA ?_ _)); exact BK274.out) hb); have n3_ := aK (below_step (by repeat (first | (with_reducible first | exact HB.out | apply hA | apply hN | apply hD | refine below_set ?_ GE272.out | refine below_set ?_ GE273.out | refine below_set ?_ GE274.out) | exact HB.out)) hb); clear BK272; clear BK273; clear BK274; clear HB; have BK272 := n0_; have BK273 := n1_; have BK274 := n2_; have HB := n3_; clear n0_ n1_ n2_ n3_; (try clear hb); (try clear hb2); (try clear hk); (try clear hi); have hcz43_0 : w42.cell? ⟨gb273, 0, none⟩ = some (.int .i64 t277) := (blk_cell BK273.out 0).trans rfl; have hcz43_1 : w42.cell? ⟨gb273, 1, none⟩ = some (.int .i64 t278) := (blk_cell BK273.out 1).trans rfl; have hfz43_0 := blk_frozen BK273.out 0; have hfz43_1 := blk_frozen BK273.out 1; have hcz44_0 : w42.cell? ⟨gb272, 0, none⟩ = some (.int .i64 t275) := (blk_cell BK272.out 0).trans rfl; have hcz44_1 : w42.cell? ⟨gb272, 1, none⟩ = some (.int .i64 t276) := (blk_cell BK272.out 1).trans rfl; have hfz44_0 := blk_frozen BK272.out 0; have hfz44_1 := blk_frozen BK272.out 1) | ((with_reducible refine gate_callee (f := 17) rfl ?_); refine goesL_ (some 17) rfl rfl Tryd.func17 (by kernel_rfl) rfl #[.agg #[.int .i64 t277, .int .i64 t278], .agg #[.int .i64 t275, .int .i64 t276]] rfl (by (try simp only [mA, mB, mC]); first | done | rfl) ?_; (with_reducible refine (congruence_Leq.calls k t277 t278 t275 t276 true _ A25.out).mono ?_); rintro e w45 ⟨rfl, hb⟩; refine ⟨_, rfl, ?_⟩; have n0_ := aK (blk_below (g := gb272) (o := .cells #[.int .i64 t275, .int .i64 t276] 25 (0, 0)) (by (with_reducible repeat (first | refine bR ?_ | refine bA ?_ _)); exact BK272.out) hb); have n1_ := aK (blk_below (g := gb273) (o := .cells #[.int .i64 t277, .int .i64 t278] 25 (0, 0)) (by (with_reducible repeat (first | refine bR ?_ | refine bA ?_ _)); exact BK273.out) hb); have n2_ := aK (blk_below (g := gb274) (o := .cells #[.int .i64 0, .int .i64 0] 25 (0, 0)) (by (with_reducible repeat (first | refine bR ?_ | refine bA ?_ _)); exact BK274.out) hb); have n3_ := aK (below_step (by repeat (first | (with_reducible first | exact HB.out | apply hA | apply hN | apply hD | refine below_set ?_ GE272.out | refine below_set ?_ GE273.out | refine below_set ?_ GE274.out) | exact HB.out)) hb); clear BK272; clear BK273; clear BK274; clear HB; have BK272 := n0_; have BK273 := n1_; have BK274 := n2_; have HB := n3_; clear n0_ n1_ n2_ n3_; (try clear hb); (try clear hb2); (try clear hk); (try clear hi); have hcz46_0 : w45.cell? ⟨gb273, 0, none⟩ = some (.int .i64 t277) := (blk_cell BK273.out 0).trans rfl; have hcz46_1 : w45.cell? ⟨gb273, 1, none⟩ = some (.int .i64 t278) := (blk_cell BK273.out 1).trans rfl; have hfz46_0 := blk_frozen BK273.out 0; have hfz46_1 := blk_frozen BK273.out 1; have hcz47_0 : w45.cell? ⟨gb274, 0, none⟩ = some (.int .i64 0) := (blk_cell BK274.out 0).trans rfl; have hcz47_1 : w45.cell? ⟨gb274, 1, none⟩ = some (.int .i64 0) := (blk_cell BK274.out 1).trans rfl; have hfz47_0 := blk_frozen BK274.out 0; have hfz47_1 := blk_frozen BK274.out 1))
     refine bodyPost_ret (results_cell_row rfl _ _ gb274 25 #[.int .i64 t277, .int .i64 t278] (0, 0) _ rfl (by (with_reducible repeat (first | refine bR ?_ | refine bA ?_ _)); refine blk_put (cs := #[.int .i64 t277, .int .i64 0]) ?_ 1 _ rfl; (with_reducible repeat (first | refine bR ?_ | refine bA ?_ _)); refine blk_put (cs := #[.int .i64 0, .int .i64 0]) ?_ 0 _ rfl; (with_reducible repeat (first | refine bR ?_ | refine bA ?_ _)); exact BK274.out) Tryd.underlying25 rfl (by kernel_rfl)) rfl ?_
     exact ⟨by first | rfl | (simp [errW_none, errW_some] <;> rfl) | (simp [*, errW_none, errW_some] <;> rfl), by repeat (first | (with_reducible first | exact HB.out | apply hA | apply hN | apply hD | refine below_set ?_ GE272.out | refine below_set ?_ GE273.out | refine below_set ?_ GE274.out) | exact HB.out)⟩
   · replace c26 := Bool.eq_false_iff.mpr c26
     subst c26
     have H1 : ((congruence_None.f).bind fun bt281 => (some (bt281.1, bt281.2))) = some (r1, r2) := by rw [if_neg (show ¬ (false = true) by decide)] at H; exact H
     clear H
     have H := H1
     clear H1
     replace H := Option.bind_eq_some_iff.mp H
     obtain ⟨⟨t281, t282⟩, A480, H⟩ := H
     replace H : (some (t281, t282)) = some (r1, r2) := H
     have A48 := aK A480
     clear A480
     simp only [Option.some.injEq, Prod.mk.injEq] at H
     obtain ⟨rfl, rfl⟩ := H
     go_enter Tryd.func23, Tryd.ntmps23
     try go_wp2_with (first | ((with_reducible refine gate_dst (N := 2) rfl ?_); refine box_event ?hg (N := 2) ?hd (cs := #[.int .i64 a0_0, .int .i64 a0_1]) (t := 25) ?hr ?_; (case hd => rfl); (case hg => rfl); (case hr => first | (go_simp; done) | (go_simp; rfl)); intro gb272 hg w49 hbox hb; have n0_ := aK (below_step (by repeat (first | (with_reducible first | exact HB.out | apply hA | apply hN | apply hD) | exact HB.out)) hb); have n1_ := aK (hbox); have n2_ := aK ((by rw [hg]; exact (below_size (by repeat (first | (with_reducible first | exact HB.out | apply hA | apply hN | apply hD) | exact HB.out))) : w.heap.size ≤ gb272)); have n3_ := aK ((by rw [hg]; exact (below_size (by repeat (first | (with_reducible first | exact HB.out | apply hA | apply hN | apply hD) | exact HB.out))) : w.heap.size ≤ gb272)); clear HB; have HB := n0_; have BK272 := n1_; have GW272 := n2_; have GE272 := n3_; clear n0_ n1_ n2_ n3_; clear hb hbox hg) | ((with_reducible refine gate_dst (N := 3) rfl ?_); refine box_event ?hg (N := 3) ?hd (cs := #[.int .i64 a1_0, .int .i64 a1_1]) (t := 25) ?hr ?_; (case hd => rfl); (case hg => rfl); (case hr => first | (go_simp; done) | (go_simp; rfl)); intro gb273 hg w50 hbox hb; have n0_ := aK (blk_below (g := gb272) (o := .cells #[.int .i64 a0_0, .int .i64 a0_1] 25 (0, 0)) (by (with_reducible repeat (first | refine bR ?_ | refine bA ?_ _)); exact BK272.out) hb); have n1_ := aK (below_step (by repeat (first | (with_reducible first | exact HB.out | apply hA | apply hN | apply hD | refine below_set ?_ GE272.out) | exact HB.out)) hb); have n2_ := aK (hbox); have n3_ := aK ((by rw [hg]; exact (below_size (by repeat (first | (with_reducible first | exact HB.out | apply hA | apply hN | apply hD | refine below_set ?_ GE272.out) | exact HB.out))) : w.heap.size ≤ gb273)); have n4_ := aK ((by rw [hg]; exact (below_size (by repeat (first | (with_reducible first | exact HB.out | apply hA | apply hN | apply hD | refine below_set ?_ GE272.out) | exact HB.out))) : w.heap.size ≤ gb273)); have n5_ := aK ((by rw [hg]; exact Nat.ne_of_lt (blk_lt (g := gb272) (o := .cells #[.int .i64 a0_0, .int .i64 a0_1] 25 (0, 0)) (by (with_reducible repeat (first | refine bR ?_ | refine bA ?_ _)); exact BK272.out)) : gb272 ≠ gb273)); have n6_ := aK ((by rw [hg]; exact Nat.ne_of_gt (blk_lt (g := gb272) (o := .cells #[.int .i64 a0_0, .int .i64 a0_1] 25 (0, 0)) (by (with_reducible repeat (first | refine bR ?_ | refine bA ?_ _)); exact BK272.out)) : gb273 ≠ gb272)); clear BK272; clear HB; have BK272 := n0_; have HB := n1_; have BK273 := n2_; have GW273 := n3_; have GE273 := n4_; have NB272_273 := n5_; have NB273_272 := n6_; clear n0_ n1_ n2_ n3_ n4_ n5_ n6_; clear hb hbox hg) | ((with_reducible refine gate_dst (N := 4) rfl ?_); refine box_event ?hg (N := 4) ?hd (cs := #[.int .i64 0, .int .i64 0]) (t := 25) ?hr ?_; (case hd => rfl); (case hg => rfl); (case hr => first | (go_simp; done) | (go_simp; rfl)); intro gb274 hg w51 hbox hb; have n0_ := aK (blk_below (g := gb272) (o := .cells #[.int .i64 a0_0, .int .i64 a0_1] 25 (0, 0)) (by (with_reducible repeat (first | refine bR ?_ | refine bA ?_ _)); exact BK272.out) hb); have n1_ := aK (blk_below (g := gb273) (o := .cells #[.int .i64 a1_0, .int .i64 a1_1] 25 (0, 0)) (by (with_reducible repeat (first | refine bR ?_ | refine bA ?_ _)); exact BK273.out) hb); have n2_ := aK (below_step (by repeat (first | (with_reducible first | exact HB.out | apply hA | apply hN | apply hD | refine below_set ?_ GE272.out | refine below_set ?_ GE273.out) | exact HB.out)) hb); have n3_ := aK (hbox); have n4_ := aK ((by rw [hg]; exact (below_size (by repeat (first | (with_reducible first | exact HB.out | apply hA | apply hN | apply hD | refine below_set ?_ GE272.out | refine below_set ?_ GE273.out) | exact HB.out))) : w.heap.size ≤ gb274)); have n5_ := aK ((by rw [hg]; exact (below_size (by repeat (first | (with_reducible first | exact HB.out | apply hA | apply hN | apply hD | refine below_set ?_ GE272.out | refine below_set ?_ GE273.out) | exact HB.out))) : w.heap.size ≤ gb274)); have n6_ := aK ((by rw [hg]; exact Nat.ne_of_lt (blk_lt (g := gb272) (o := .cells #[.int .i64 a0_0, .int .i64 a0_1] 25 (0, 0)) (by (with_reducible repeat (first | refine bR ?_ | refine bA ?_ _)); exact BK272.out)) : gb272 ≠ gb274)); have n7_ := aK ((by rw [hg]; exact Nat.ne_of_gt (blk_lt (g := gb272) (o := .cells #[.int .i64 a0_0, .int .i64 a0_1] 25 (0, 0)) (by (with_reducible repeat (first | refine bR ?_ | refine bA ?_ _)); exact BK272.out)) : gb274 ≠ gb272)); have n8_ := aK ((by rw [hg]; exact Nat.ne_of_lt (blk_lt (g := gb273) (o := .cells #[.int .i64 a1_0, .int .i64 a1_1] 25 (0, 0)) (by (with_reducible repeat (first | refine bR ?_ | refine bA ?_ _)); exact BK273.out)) : gb273 ≠ gb274)); have n9_ := aK ((by rw [hg]; exact Nat.ne_of_gt (blk_lt (g := gb273) (o := .cells #[.int .i64 a1_0, .int .i64 a1_1] 25 (0, 0)) (by (with_reducible repeat (first | refine bR ?_ | refine bA ?_ _)); exact BK273.out)) : gb274 ≠ gb273)); clear BK272; clear BK273; clear HB; have BK272 := n0_; have BK273 := n1_; have HB := n2_; have BK274 := n3_; have GW274 := n4_; have GE274 := n5_; have NB272_274 := n6_; have NB274_272 := n7_; have NB273_274 := n8_; have NB274_273 := n9_; clear n0_ n1_ n2_ n3_ n4_ n5_ n6_ n7_ n8_ n9_; clear hb hbox hg))
     have n0_ := aK (blk_drew BK272.out)
     have n1_ := aK (blk_drew BK273.out)
     have n2_ := aK (blk_drew BK274.out)
     have n3_ := aK (below_drew1 HB.out)
     clear BK272
     clear BK273
     clear BK274
     clear HB
     have BK272 := n0_
     have BK273 := n1_
     have BK274 := n2_
     have HB := n3_
     clear n0_ n1_ n2_ n3_
     refine start_ (n := 6) (S := fun w' => w'.cell? ⟨gb272, 0, none⟩ = some (.int .i64 a0_0) ∧ w'.cell? ⟨gb272, 1, none⟩ = some (.int .i64 a0_1) ∧ w'.cell? ⟨gb273, 0, none⟩ = some (.int .i64 a1_0) ∧ w'.cell? ⟨gb273, 1, none⟩ = some (.int .i64 a1_1)) (ds := [4, 5]) #[Z,Z,Z,Z,Z,Z] (by kernel_rfl) rfl rfl ⟨(blk_cell BK272.out 0).trans rfl, (blk_cell BK272.out 1).trans rfl, (blk_cell BK273.out 0).trans rfl, (blk_cell BK273.out 1).trans rfl⟩ (fun hHeld => ?_)
     generalize w51.drew = w52 at BK272 BK273 BK274 HB hHeld ⊢
     refine take_ (i := 0) (N := some 5) (v := ?_) (a' := ?_) #[Y,Z,Z,Z,Z,Z] rfl rfl (by kernel_rfl) (fun _ _ _ h => h) (Or.inl ⟨by rfl, ?_⟩) hHeld ?_ ?_
     rotate_left
     · rintro w' ⟨s0, s1, s2, s3⟩
       go_simp
       with_reducible rfl
     rotate_left
     · simp only [Act.put, sA, sB, sC, i64_w, i32_w]
       rfl
     refine take_ (i := 2) (N := some 7) (v := ?_) (a' := ?_) #[Y,Z,Y,Z,Z,Z] rfl rfl (by kernel_rfl) (fun _ _ _ h => h) (Or.inl ⟨by rfl, ?_⟩) hHeld ?_ ?_
     rotate_left
     · rintro w' ⟨s0, s1, s2, s3⟩
       go_simp
       with_reducible rfl
     rotate_left
     · simp only [Act.put, sA, sB, sC, i64_w, i32_w]
       rfl
     refine one_ (i := 1) (N := some 6) #[Y,Y,Y,Z,Z,Z] rfl rfl (by kernel_rfl) (by decide) (fun K hK => ?_)
     refine goes_ Tryd.func24 (by kernel_rfl) rfl #[.agg #[.int .i64 a0_0, .int .i64 a0_1]] (by rfl) rfl rfl (by (try simp only [mA, mB, mC]); first | done | rfl) ?_
     with_reducible refine (congruence_Fix.calls a0_0 a0_1 t275 t276 _ A3.out).mono ?_
     rintro e w53 ⟨rfl, hb⟩
     refine ⟨_, rfl, ?_⟩
     have n0_ := aK (blk_below (g := gb272) (o := .cells #[.int .i64 a0_0, .int .i64 a0_1] 25 (0, 0)) (by (with_reducible repeat (first | refine bR ?_ | refine bA ?_ _)); exact BK272.out) hb)
     have n1_ := aK (blk_below (g := gb273) (o := .cells #[.int .i64 a1_0, .int .i64 a1_1] 25 (0, 0)) (by (with_reducible repeat (first | refine bR ?_ | refine bA ?_ _)); exact BK273.out) hb)
     have n2_ := aK (blk_below (g := gb274) (o := .cells #[.int .i64 0, .int .i64 0] 25 (0, 0)) (by (with_reducible repeat (first | refine bR ?_ | refine bA ?_ _)); exact BK274.out) hb)
     have n3_ := aK (below_step (by repeat (first | (with_reducible first | exact HB.out | apply hA | apply hN | apply hD | refine below_set ?_ GE272.out | refine below_set ?_ GE273.out | refine below_set ?_ GE274.out) | exact HB.out)) hb)
     clear BK272
     clear BK273
     clear BK274
     clear HB
     have BK272 := n0_
     have BK273 := n1_
     have BK274 := n2_
     have HB := n3_
     clear n0_ n1_ n2_ n3_
     (try clear hb)
     (try clear hb2)
     (try clear hk)
     (try clear hi)
     refine hK.out _ _ ⟨(blk_cell BK272.out 0).trans rfl, (blk_cell BK272.out 1).trans rfl, (blk_cell BK273.out 0).trans rfl, (blk_cell BK273.out 1).trans rfl⟩ (fun hHeld => ?_)
     clear hK K
     refine norm_ (a' := ?_) ?_ ?_
     rotate_left
     · show Act.put _ (some 6) _ = _
       simp only [Act.put, sA, sB, sC, i64_w, i32_w]
       rfl
     refine one_ (i := 3) (N := some 8) #[Y,Y,Y,Y,Z,Z] rfl rfl (by kernel_rfl) (by decide) (fun K hK => ?_)
     refine goes_ Tryd.func24 (by kernel_rfl) rfl #[.agg #[.int .i64 a1_0, .int .i64 a1_1]] (by rfl) rfl rfl (by (try simp only [mA, mB, mC]); first | done | rfl) ?_
     with_reducible refine (congruence_Fix.calls a1_0 a1_1 t277 t278 _ A4.out).mono ?_
     rintro e w54 ⟨rfl, hb⟩
     refine ⟨_, rfl, ?_⟩
     have n0_ := aK (blk_below (g := gb272) (o := .cells #[.int .i64 a0_0, .int .i64 a0_1] 25 (0, 0)) (by (with_reducible repeat (first | refine bR ?_ | refine bA ?_ _)); exact BK272.out) hb)
     have n1_ := aK (blk_below (g := gb273) (o := .cells #[.int .i64 a1_0, .int .i64 a1_1] 25 (0, 0)) (by (with_reducible repeat (first | refine bR ?_ | refine bA ?_ _)); exact BK273.out) hb)
     have n2_ := aK (blk_below (g := gb274) (o := .cells #[.int .i64 0, .int .i64 0] 25 (0, 0)) (by (with_reducible repeat (first | refine bR ?_ | refine bA ?_ _)); exact BK274.out) hb)
     have n3_ := aK (below_step (by repeat (first | (with_reducible first | exact HB.out | apply hA | apply hN | apply hD | refine below_set ?_ GE272.out | refine below_set ?_ GE273.out | refine below_set ?_ GE274.out) | exact HB.out)) hb)
     clear BK272
     clear BK273
     clear BK274
     clear HB
     have BK272 := n0_
     have BK273 := n1_
     have BK274 := n2_
     have HB := n3_
     clear n0_ n1_ n2_ n3_
     (try clear hb)
     (try clear hb2)
     (try clear hk)
     (try clear hi)
     refine hK.out _ _ ⟨(blk_cell BK272.out 0).trans rfl, (blk_cell BK272.out 1).trans rfl, (blk_cell BK273.out 0).trans rfl, (blk_cell BK273.out 1).trans rfl⟩ (fun hHeld => ?_)
     clear hK K
     refine norm_ (a' := ?_) ?_ ?_
     rotate_left
     · show Act.put _ (some 8) _ = _
       simp only [Act.put, sA, sB, sC, i64_w, i32_w]
       rfl
     refine last_ (i := 4) (N := none) #[Y,Y,Y,Y,Y,Z] rfl rfl (by kernel_rfl) (by decide) (fun K hK => ?_)
     have hs55 : w54.cell? ⟨gb272, 0, none⟩ = some (.int .i64 a0_0) := (blk_cell BK272.out 0).trans rfl
     have hfs55 := blk_frozen BK272.out 0
     have hns55_1 := NB273_272.out
     have hns55_2 := NB274_272.out
     have hms55_1 := NB272_273.out
     have hms55_2 := NB272_274.out
     have hs56 : w54.cell? ⟨gb272, 1, none⟩ = some (.int .i64 a0_1) := (blk_cell BK272.out 1).trans rfl
     have hfs56 := blk_frozen BK272.out 1
     have hns56_1 := NB273_272.out
     have hns56_2 := NB274_272.out
     have hms56_1 := NB272_273.out
     have hms56_2 := NB272_274.out
     refine skip_ (w1 := ?_) (by rfl) rfl ?_ ?_
     rotate_left
     · go_simp
       rfl
     refine hK.out _ _ ?_
     clear hK K
     refine last_ (i := 5) (N := none) #[Y,Y,Y,Y,Y,Y] rfl rfl (by kernel_rfl) (by decide) (fun K hK => ?_)
     have hs57 : w54.cell? ⟨gb273, 0, none⟩ = some (.int .i64 a1_0) := (blk_cell BK273.out 0).trans rfl
     have hfs57 := blk_frozen BK273.out 0
     have hns57_0 := NB272_273.out
     have hns57_2 := NB274_273.out
     have hms57_0 := NB273_272.out
     have hms57_2 := NB273_274.out
     have hs58 : w54.cell? ⟨gb273, 1, none⟩ = some (.int .i64 a1_1) := (blk_cell BK273.out 1).trans rfl
     have hfs58 := blk_frozen BK273.out 1
     have hns58_0 := NB272_273.out
     have hns58_2 := NB274_273.out
     have hms58_0 := NB273_272.out
     have hms58_2 := NB273_274.out
     refine skip_ (w1 := ?_) (by rfl) rfl ?_ ?_
     rotate_left
     · go_simp
       rfl
     refine hK.out _ _ ?_
     clear hK K
     refine done_ (by kernel_rfl) ?_
     have hnb59 := NB272_273.out
     have hnc59 := NB273_272.out
     have hnb60 := NB272_274.out
     have hnc60 := NB274_272.out
     have hcz61_0 : w54.cell? ⟨gb272, 0, none⟩ = some (.int .i64 a0_0) := (blk_cell BK272.out 0).trans rfl
     have hcz61_1 : w54.cell? ⟨gb272, 1, none⟩ = some (.int .i64 a0_1) := (blk_cell BK272.out 1).trans rfl
     have hfz61_0 := blk_frozen BK272.out 0
     have hfz61_1 := blk_frozen BK272.out 1
     have hnb62 := NB273_274.out
     have hnc62 := NB274_273.out
     have hcz63_0 : w54.cell? ⟨gb273, 0, none⟩ = some (.int .i64 a1_0) := (blk_cell BK273.out 0).trans rfl
     have hcz63_1 : w54.cell? ⟨gb273, 1, none⟩ = some (.int .i64 a1_1) := (blk_cell BK273.out 1).trans rfl
     have hfz63_0 := blk_frozen BK273.out 0
     have hfz63_1 := blk_frozen BK273.out 1
     try go_wp2_with (first | ((with_reducible refine gate_callee (f := 17) rfl ?_); refine goesL_ (some 12) rfl rfl Tryd.func17 (by kernel_rfl) rfl #[.agg #[.int .i64 t275, .int .i64 t276], .agg #[.int .i64 t277, .int .i64 t278]] rfl (by (try simp only [mA, mB, mC]); first | done | rfl) ?_; (with_reducible refine (congruence_Leq.calls k t275 t276 t277 t278 false _ A5.out).mono ?_); rintro e w64 ⟨rfl, hb⟩; refine ⟨_, rfl, ?_⟩; have n0_ := aK (blk_below (g := gb272) (o := .cells #[.int .i64 t275, .int .i64 t276] 25 (0, 0)) (by (with_reducible repeat (first | refine bR ?_ | refine bA ?_ _)); refine blk_far ?_ NB272_273.out _; (with_reducible repeat (first | refine bR ?_ | refine bA ?_ _)); refine blk_far ?_ NB272_273.out _; (with_reducible repeat (first | refine bR ?_ | refine bA ?_ _)); refine blk_put (cs := #[.int .i64 t275, .int .i64 a0_1]) ?_ 1 _ rfl; (with_reducible repeat (first | refine bR ?_ | refine bA ?_ _)); refine blk_put (cs := #[.int .i64 a0_0, .int .i64 a0_1]) ?_ 0 _ rfl; (with_reducible repeat (first | refine bR ?_ | refine bA ?_ _)); exact BK272.out) hb); have n1_ := aK (blk_below (g := gb273) (o := .cells #[.int .i64 t277, .int .i64 t278] 25 (0, 0)) (by (with_reducible repeat (first | refine bR ?_ | refine bA ?_ _)); refine blk_put (cs := #[.int .i64 t277, .int .i64 a1_1]) ?_ 1 _ rfl; (with_reducible repeat (first | refine bR ?_ | refine bA ?_ _)); refine blk_put (cs := #[.int .i64 a1_0, .int .i64 a1_1]) ?_ 0 _ rfl; (with_reducible repeat (first | refine bR ?_ | refine bA ?_ _)); refine blk_far ?_ NB273_272.out _; (with_reducible repeat (first | refine bR ?_ | refine bA ?_ _)); refine blk_far ?_ NB273_272.out _; (with_reducible repeat (first | refine bR ?_ | refine bA ?_ _)); exact BK273.out) hb); have n2_ := aK (blk_below (g := gb274) (o := .cells #[.int .i64 0, .int .i64 0] 25 (0, 0)) (by (with_reducible repeat (first | refine bR ?_ | refine bA ?_ _)); refine blk_far ?_ NB274_273.out _; (with_reducible repeat (first | refine bR ?_ | refine bA ?_ _)); refine blk_far ?_ NB274_273.out _; (with_reducible repeat (first | refine bR ?_ | refine bA ?_ _)); refine blk_far ?_ NB274_272.out _; (with_reducible repeat (first | refine bR ?_ | refine bA ?_ _)); refine blk_far ?_ NB274_272.out _; (with_reducible repeat (first | refine bR ?_ | refine bA ?_ _)); exact BK274.out) hb); have n3_ := aK (below_step (by repeat (first | (with_reducible first | exact HB.out | apply hA | apply hN | apply hD | refine below_set ?_ GE272.out | refine below_set ?_ GE273.out | refine below_set ?_ GE274.out) | exact HB.out)) hb); clear BK272; clear BK273; clear BK274; clear HB; have BK272 := n0_; have BK273 := n1_; have BK274 := n2_; have HB := n3_; clear n0_ n1_ n2_ n3_; (try clear hb); (try clear hb2); (try clear hk); (try clear hi); have hcz65_0 : w64.cell? ⟨gb273, 0, none⟩ = some (.int .i64 t277) := (blk_cell BK273.out 0).trans rfl; have hcz65_1 : w64.cell? ⟨gb273, 1, none⟩ = some (.int .i64 t278) := (blk_cell BK273.out 1).trans rfl; have hfz65_0 := blk_frozen BK273.out 0; have hfz65_1 := blk_frozen BK273.out 1; have hcz66_0 : w64.cell? ⟨gb272, 0, none⟩ = some (.int .i64 t275) := (blk_cell BK272.out 0).trans rfl; have hcz66_1 : w64.cell? ⟨gb272, 1, none⟩ = some (.int .i64 t276) := (blk_cell BK272.out 1).trans rfl; have hfz66_0 := blk_frozen BK272.out 0; have hfz66_1 := blk_frozen BK272.out 1) | ((with_reducible refine gate_callee (f := 17) rfl ?_); refine goesL_ (some 17) rfl rfl Tryd.func17 (by kernel_rfl) rfl #[.agg #[.int .i64 t277, .int .i64 t278], .agg #[.int .i64 t275, .int .i64 t276]] rfl (by (try simp only [mA, mB, mC]); first | done | rfl) ?_; (with_reducible refine (congruence_Leq.calls k t277 t278 t275 t276 false _ A25.out).mono ?_); rintro e w67 ⟨rfl, hb⟩; refine ⟨_, rfl, ?_⟩; have n0_ := aK (blk_below (g := gb272) (o := .cells #[.int .i64 t275, .int .i64 t276] 25 (0, 0)) (by (with_reducible repeat (first | refine bR ?_ | refine bA ?_ _)); exact BK272.out) hb); have n1_ := aK (blk_below (g := gb273) (o := .cells #[.int .i64 t277, .int .i64 t278] 25 (0, 0)) (by (with_reducible repeat (first | refine bR ?_ | refine bA ?_ _)); exact BK273.out) hb); have n2_ := aK (blk_below (g := gb274) (o := .cells #[.int .i64 0, .int .i64 0] 25 (0, 0)) (by (with_reducible repeat (first | refine bR ?_ | refine bA ?_ _)); exact BK274.out) hb); have n3_ := aK (below_step (by repeat (first | (with_reducible first | exact HB.out | apply hA | apply hN | apply hD | refine below_set ?_ GE272.out | refine below_set ?_ GE273.out | refine below_set ?_ GE274.out) | exact HB.out)) hb); clear BK272; clear BK273; clear BK274; clear HB; have BK272 := n0_; have BK273 := n1_; have BK274 := n2_; have HB := n3_; clear n0_ n1_ n2_ n3_; (try clear hb); (try clear hb2); (try clear hk); (try clear hi)) | ((with_reducible refine gate_callee (f := 9) rfl ?_); refine goesL_ (some 19) rfl rfl Tryd.func9 (by kernel_rfl) rfl #[] rfl (by (try simp only [mA, mB, mC]); first | done | rfl) ?_; (with_reducible refine (congruence_None.calls  t281 t282 _ A48.out).mono ?_); rintro e w68 ⟨rfl, hb⟩; refine ⟨_, rfl, ?_⟩; have n0_ := aK (blk_below (g := gb272) (o := .cells #[.int .i64 t275, .int .i64 t276] 25 (0, 0)) (by (with_reducible repeat (first | refine bR ?_ | refine bA ?_ _)); exact BK272.out) hb); have n1_ := aK (blk_below (g := gb273) (o := .cells #[.int .i64 t277, .int .i64 t278] 25 (0, 0)) (by (with_reducible repeat (first | refine bR ?_ | refine bA ?_ _)); exact BK273.out) hb); have n2_ := aK (blk_below (g := gb274) (o := .cells #[.int .i64 0, .int .i64 0] 25 (0, 0)) (by (with_reducible repeat (first | refine bR ?_ | refine bA ?_ _)); exact BK274.out) hb); have n3_ := aK (below_step (by repeat (first | (with_reducible first | exact HB.out | apply hA | apply hN | apply hD | refine below_set ?_ GE272.out | refine below_set ?_ GE273.out | refine below_set ?_ GE274.out) | exact HB.out)) hb); clear BK272; clear BK273; clear BK274; clear HB; have BK272 := n0_; have BK273 := n1_; have BK274 := n2_; have HB := n3_; clear n0_ n1_ n2_ n3_; (try clear hb); (try clear hb2); (try clear hk); (try clear hi); have hcz69_0 : w68.cell? ⟨gb274, 0, none⟩ = some (.int .i64 0) := (blk_cell BK274.out 0).trans rfl; have hcz69_1 : w68.cell? ⟨gb274, 1, none⟩ = some (.int .i64 0) := (blk_cell BK274.out 1).trans rfl; have hfz69_0 := blk_frozen BK274.out 0; have hfz69_1 := blk_frozen BK274.out 1))
     refine bodyPost_ret (results_cell_row rfl _ _ gb274 25 #[.int .i64 t281, .int .i64 t282] (0, 0) _ rfl (by (with_reducible repeat (first | refine bR ?_ | refine bA ?_ _)); refine blk_put (cs := #[.int .i64 t281, .int .i64 0]) ?_ 1 _ rfl; (with_reducible repeat (first | refine bR ?_ | refine bA ?_ _)); refine blk_put (cs := #[.int .i64 0, .int .i64 0]) ?_ 0 _ rfl; (with_reducible repeat (first | refine bR ?_ | refine bA ?_ _)); exact BK274.out) Tryd.underlying25 rfl (by kernel_rfl)) rfl ?_
     exact ⟨by first | rfl | (simp [errW_none, errW_some] <;> rfl) | (simp [*, errW_none, errW_some] <;> rfl), by repeat (first | (with_reducible first | exact HB.out | apply hA | apply hN | apply hD | refine below_set ?_ GE272.out | refine below_set ?_ GE273.out | refine below_set ?_ GE274.out) | exact HB.out)⟩
end Go.Proofs.YtaphfmbloappkaaDoorG.PAll
