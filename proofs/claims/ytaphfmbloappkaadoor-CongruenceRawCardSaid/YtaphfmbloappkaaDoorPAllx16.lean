-- The walks of some functions, printed by a program for this claim.
import Derived.Test.YtaphfmbloappkaaDoorPAllx0
import Derived.Test.YtaphfmbloappkaaDoorPAllx1
import Derived.Test.YtaphfmbloappkaaDoorPAllx11
import Derived.Test.YtaphfmbloappkaaDoorPAllx13
namespace Go.Proofs.YtaphfmbloappkaaDoorG.PAll
open Go.RowKit Go.Proofs.YtaphfmbloappkaaDoorW.PrintWords Go.Proofs.YtaphfmbloappkaaDoorW.PrintLast Go.Proofs.YtaphfmbloappkaaDoorW.PrintMore
attribute [local go_sem] max2_int min2_int max_two min_two max_three min_three max_four min_four   -- for this text's walks alone
set_option linter.unusedVariables false
set_option linter.unusedSimpArgs false
attribute [local go_sem high] eqA25
/-! ### timeboundref08_Leq: function 35 -/
def timeboundref08_Leq.f (k : Nat) (a0_0 : Int) (a0_1 : Int) (a1_0 : Int) (a1_1 : Int) : Option (Bool) := (timeboundref08_Form.f k a0_0 a0_1).bind fun bt392 => ((timeboundref08_Form.f k a1_0 a1_1).bind fun bt394 => ((timeboundref08_None.f).bind fun bt396 => (if (bt392.1 == bt396.1 && (bt392.2 == bt396.2)) = true then (some true) else ((timeboundref08_None.f).bind fun bt398 => (if (bt394.1 == bt398.1 && (bt394.2 == bt398.2)) = true then (some false) else (if bt394.1 = 0 then (some (bt392.1 == bt394.1 && (bt392.2 == bt394.2))) else (if bt392.1 = 0 then (some ((Int.tmod (wrap64 (bt392.2 - bt394.2)) bt394.1) == 0)) else (if bt392.1 ≥ bt394.1 then (some ((Int.tmod (wrap64 (bt392.2 - bt394.2)) bt394.1) == 0)) else (some false)))))))))
theorem timeboundref08_Leq.mono : ∀ a0 a1 a2 a3 k, LeO (timeboundref08_Leq.f k a0 a1 a2 a3) (timeboundref08_Leq.f (k + 1) a0 a1 a2 a3) := by
 intro a0 a1 a2 a3 k
 unfold timeboundref08_Leq.f
 repeat' first
  | (with_reducible exact timeboundref08_Form.mono _ _ _)
  | (with_reducible exact LeO.refl _)
  | (with_reducible exact LeO.none _)
  | (with_reducible refine LeO.ite ?_ ?_)
  | (with_reducible refine LeO.bind ?_ (fun _ => ?_))
  | exact timeboundref08_Form.mono _ _ _
  | exact LeO.none _
  | refine LeO.ite ?_ ?_
  | refine LeO.bind ?_ (fun _ => ?_)
set_option maxHeartbeats 80000000 in
set_option maxRecDepth 100000 in
theorem timeboundref08_Leq.calls (k : Nat) (a0_0 : Int) (a0_1 : Int) (a1_0 : Int) (a1_1 : Int) (r : Bool) (w : World) (h : timeboundref08_Leq.f k a0_0 a0_1 a1_0 a1_1 = some r) :
 Calls Tryd.prog 35 #[.agg #[.int .i64 a0_0, .int .i64 a0_1], .agg #[.int .i64 a1_0, .int .i64 a1_1]] w fun e w' => e = .returned (.bool r) ∧ Below w.heap.size w w' := by
 have hu25 := Tryd.underlying25
 have HB := aK (Below.refl w.heap.size w)
 have H : ((timeboundref08_Form.f k a0_0 a0_1).bind fun bt392 => ((timeboundref08_Form.f k a1_0 a1_1).bind fun bt394 => ((timeboundref08_None.f).bind fun bt396 => (if (bt392.1 == bt396.1 && (bt392.2 == bt396.2)) = true then (some true) else ((timeboundref08_None.f).bind fun bt398 => (if (bt394.1 == bt398.1 && (bt394.2 == bt398.2)) = true then (some false) else (if bt394.1 = 0 then (some (bt392.1 == bt394.1 && (bt392.2 == bt394.2))) else (if bt392.1 = 0 then (some ((Int.tmod (wrap64 (bt392.2 - bt394.2)) bt394.1) == 0)) else (if bt392.1 ≥ bt394.1 then (some ((Int.tmod (wrap64 (bt392.2 - bt394.2)) bt394.1) == 0)) else (some false)))))))))) = some r := h
 clear h
 replace H := Option.bind_eq_some_iff.mp H
 obtain ⟨⟨t392, t393⟩, A30, H⟩ := H
 replace H : ((timeboundref08_Form.f k a1_0 a1_1).bind fun bt394 => ((timeboundref08_None.f).bind fun bt396 => (if (t392 == bt396.1 && (t393 == bt396.2)) = true then (some true) else ((timeboundref08_None.f).bind fun bt398 => (if (bt394.1 == bt398.1 && (bt394.2 == bt398.2)) = true then (some false) else (if bt394.1 = 0 then (some (t392 == bt394.1 && (t393 == bt394.2))) else (if t392 = 0 then (some ((Int.tmod (wrap64 (t393 - bt394.2)) bt394.1) == 0)) else (if t392 ≥ bt394.1 then (some ((Int.tmod (wrap64 (t393 - bt394.2)) bt394.1) == 0)) else (some false))))))))) = some r := H
 have A3 := aK A30
 clear A30
 replace H := Option.bind_eq_some_iff.mp H
 obtain ⟨⟨t394, t395⟩, A40, H⟩ := H
 replace H : ((timeboundref08_None.f).bind fun bt396 => (if (t392 == bt396.1 && (t393 == bt396.2)) = true then (some true) else ((timeboundref08_None.f).bind fun bt398 => (if (t394 == bt398.1 && (t395 == bt398.2)) = true then (some false) else (if t394 = 0 then (some (t392 == t394 && (t393 == t395))) else (if t392 = 0 then (some ((Int.tmod (wrap64 (t393 - t395)) t394) == 0)) else (if t392 ≥ t394 then (some ((Int.tmod (wrap64 (t393 - t395)) t394) == 0)) else (some false)))))))) = some r := H
 have A4 := aK A40
 clear A40
 replace H := Option.bind_eq_some_iff.mp H
 obtain ⟨⟨t396, t397⟩, A50, H⟩ := H
 replace H : (if (t392 == t396 && (t393 == t397)) = true then (some true) else ((timeboundref08_None.f).bind fun bt398 => (if (t394 == bt398.1 && (t395 == bt398.2)) = true then (some false) else (if t394 = 0 then (some (t392 == t394 && (t393 == t395))) else (if t392 = 0 then (some ((Int.tmod (wrap64 (t393 - t395)) t394) == 0)) else (if t392 ≥ t394 then (some ((Int.tmod (wrap64 (t393 - t395)) t394) == 0)) else (some false))))))) = some r := H
 have A5 := aK A50
 clear A50
 by_cases c6 : (t392 == t396 && (t393 == t397)) = true
 · rw [if_pos c6] at H
   have c6b0 : (t392 == t396 && (t393 == t397)) = true := c6
   (try (have c6b1 : decide (t392 = t396 && (t393 == t397)) = true := by simpa using c6))
   (try (have c6b2 : (t392 == t396 && (t393 == t397)) = true := by simpa using c6))
   clear c6
   obtain rfl := Option.some.inj H
   go_enter Tryd.func35, Tryd.ntmps35
   try go_wp2_with (first | ((with_reducible refine gate_dst (N := 2) rfl ?_); refine box_event ?hg (N := 2) ?hd (cs := #[.int .i64 a0_0, .int .i64 a0_1]) (t := 25) ?hr ?_; (case hd => rfl); (case hg => rfl); (case hr => first | (go_simp; done) | (go_simp; rfl)); intro gb390 hg w7 hbox hb; have n0_ := aK (below_step (by repeat (first | (with_reducible first | exact HB.out | apply hA | apply hN | apply hD) | exact HB.out)) hb); have n1_ := aK (hbox); have n2_ := aK ((by rw [hg]; exact (below_size (by repeat (first | (with_reducible first | exact HB.out | apply hA | apply hN | apply hD) | exact HB.out))) : w.heap.size ≤ gb390)); have n3_ := aK ((by rw [hg]; exact (below_size (by repeat (first | (with_reducible first | exact HB.out | apply hA | apply hN | apply hD) | exact HB.out))) : w.heap.size ≤ gb390)); clear HB; have HB := n0_; have BK390 := n1_; have GW390 := n2_; have GE390 := n3_; clear n0_ n1_ n2_ n3_; clear hb hbox hg) | ((with_reducible refine gate_dst (N := 3) rfl ?_); refine box_event ?hg (N := 3) ?hd (cs := #[.int .i64 a1_0, .int .i64 a1_1]) (t := 25) ?hr ?_; (case hd => rfl); (case hg => rfl); (case hr => first | (go_simp; done) | (go_simp; rfl)); intro gb391 hg w8 hbox hb; have n0_ := aK (blk_below (g := gb390) (o := .cells #[.int .i64 a0_0, .int .i64 a0_1] 25 (0, 0)) (by (with_reducible repeat (first | refine bR ?_ | refine bA ?_ _)); exact BK390.out) hb); have n1_ := aK (below_step (by repeat (first | (with_reducible first | exact HB.out | apply hA | apply hN | apply hD | refine below_set ?_ GE390.out) | exact HB.out)) hb); have n2_ := aK (hbox); have n3_ := aK ((by rw [hg]; exact (below_size (by repeat (first | (with_reducible first | exact HB.out | apply hA | apply hN | apply hD | refine below_set ?_ GE390.out) | exact HB.out))) : w.heap.size ≤ gb391)); have n4_ := aK ((by rw [hg]; exact (below_size (by repeat (first | (with_reducible first | exact HB.out | apply hA | apply hN | apply hD | refine below_set ?_ GE390.out) | exact HB.out))) : w.heap.size ≤ gb391)); have n5_ := aK ((by rw [hg]; exact Nat.ne_of_lt (blk_lt (g := gb390) (o := .cells #[.int .i64 a0_0, .int .i64 a0_1] 25 (0, 0)) (by (with_reducible repeat (first | refine bR ?_ | refine bA ?_ _)); exact BK390.out)) : gb390 ≠ gb391)); have n6_ := aK ((by rw [hg]; exact Nat.ne_of_gt (blk_lt (g := gb390) (o := .cells #[.int .i64 a0_0, .int .i64 a0_1] 25 (0, 0)) (by (with_reducible repeat (first | refine bR ?_ | refine bA ?_ _)); exact BK390.out)) : gb391 ≠ gb390)); clear BK390; clear HB; have BK390 := n0_; have HB := n1_; have BK391 := n2_; have GW391 := n3_; have GE391 := n4_; have NB390_391 := n5_; have NB391_390 := n6_; clear n0_ n1_ n2_ n3_ n4_ n5_ n6_; clear hb hbox hg))
   have n0_ := aK (blk_drew BK390.out)
   have n1_ := aK (blk_drew BK391.out)
   have n2_ := aK (below_drew1 HB.out)
   clear BK390
   clear BK391
   clear HB
   have BK390 := n0_
   have BK391 := n1_
   have HB := n2_
   clear n0_ n1_ n2_
   refine start_ (n := 6) (S := fun w' => w'.cell? ⟨gb390, 0, none⟩ = some (.int .i64 a0_0) ∧ w'.cell? ⟨gb390, 1, none⟩ = some (.int .i64 a0_1) ∧ w'.cell? ⟨gb391, 0, none⟩ = some (.int .i64 a1_0) ∧ w'.cell? ⟨gb391, 1, none⟩ = some (.int .i64 a1_1)) (ds := [4, 5]) #[Z,Z,Z,Z,Z,Z] (by kernel_rfl) rfl rfl ⟨(blk_cell BK390.out 0).trans rfl, (blk_cell BK390.out 1).trans rfl, (blk_cell BK391.out 0).trans rfl, (blk_cell BK391.out 1).trans rfl⟩ (fun hHeld => ?_)
   generalize w8.drew = w9 at BK390 BK391 HB hHeld ⊢
   refine take_ (i := 0) (N := some 5) (v := ?_) (a' := ?_) #[Y,Z,Z,Z,Z,Z] rfl rfl (by kernel_rfl) (fun _ _ _ h => h) (Or.inl ⟨by rfl, ?_⟩) hHeld ?_ ?_
   rotate_left
   · rintro w' ⟨s0, s1, s2, s3⟩
     go_simp
     with_reducible rfl
   rotate_left
   · simp only [Act.put, sA, sB, sC, i64_w, i32_w]
     rfl
   refine take_ (i := 2) (N := some 7) (v := ?_) (a' := ?_) #[Y,Z,Y,Z,Z,Z] rfl rfl (by kernel_rfl) (fun _ _ _ h => h) (Or.inl ⟨by rfl, ?_⟩) hHeld ?_ ?_
   rotate_left
   · rintro w' ⟨s0, s1, s2, s3⟩
     go_simp
     with_reducible rfl
   rotate_left
   · simp only [Act.put, sA, sB, sC, i64_w, i32_w]
     rfl
   refine one_ (i := 1) (N := some 6) #[Y,Y,Y,Z,Z,Z] rfl rfl (by kernel_rfl) (by decide) (fun K hK => ?_)
   refine goes_ Tryd.func42 (by kernel_rfl) rfl #[.agg #[.int .i64 a0_0, .int .i64 a0_1]] (by rfl) rfl rfl (by (try simp only [mA, mB, mC]); first | done | rfl) ?_
   with_reducible refine (timeboundref08_Form.calls k a0_0 a0_1 t392 t393 _ A3.out).mono ?_
   rintro e w10 ⟨rfl, hb⟩
   refine ⟨_, rfl, ?_⟩
   have n0_ := aK (blk_below (g := gb390) (o := .cells #[.int .i64 a0_0, .int .i64 a0_1] 25 (0, 0)) (by (with_reducible repeat (first | refine bR ?_ | refine bA ?_ _)); exact BK390.out) hb)
   have n1_ := aK (blk_below (g := gb391) (o := .cells #[.int .i64 a1_0, .int .i64 a1_1] 25 (0, 0)) (by (with_reducible repeat (first | refine bR ?_ | refine bA ?_ _)); exact BK391.out) hb)
   have n2_ := aK (below_step (by repeat (first | (with_reducible first | exact HB.out | apply hA | apply hN | apply hD | refine below_set ?_ GE390.out | refine below_set ?_ GE391.out) | exact HB.out)) hb)
   clear BK390
   clear BK391
   clear HB
   have BK390 := n0_
   have BK391 := n1_
   have HB := n2_
   clear n0_ n1_ n2_
   (try clear hb)
   (try clear hb2)
   (try clear hk)
   (try clear hi)
   refine hK.out _ _ ⟨(blk_cell BK390.out 0).trans rfl, (blk_cell BK390.out 1).trans rfl, (blk_cell BK391.out 0).trans rfl, (blk_cell BK391.out 1).trans rfl⟩ (fun hHeld => ?_)
   clear hK K
   refine norm_ (a' := ?_) ?_ ?_
   rotate_left
   · show Act.put _ (some 6) _ = _
     simp only [Act.put, sA, sB, sC, i64_w, i32_w]
     rfl
   refine one_ (i := 3) (N := some 8) #[Y,Y,Y,Y,Z,Z] rfl rfl (by kernel_rfl) (by decide) (fun K hK => ?_)
   refine goes_ Tryd.func42 (by kernel_rfl) rfl #[.agg #[.int .i64 a1_0, .int .i64 a1_1]] (by rfl) rfl rfl (by (try simp only [mA, mB, mC]); first | done | rfl) ?_
   with_reducible refine (timeboundref08_Form.calls k a1_0 a1_1 t394 t395 _ A4.out).mono ?_
   rintro e w11 ⟨rfl, hb⟩
   refine ⟨_, rfl, ?_⟩
   have n0_ := aK (blk_below (g := gb390) (o := .cells #[.int .i64 a0_0, .int .i64 a0_1] 25 (0, 0)) (by (with_reducible repeat (first | refine bR ?_ | refine bA ?_ _)); exact BK390.out) hb)
   have n1_ := aK (blk_below (g := gb391) (o := .cells #[.int .i64 a1_0, .int .i64 a1_1] 25 (0, 0)) (by (with_reducible repeat (first | refine bR ?_ | refine bA ?_ _)); exact BK391.out) hb)
   have n2_ := aK (below_step (by repeat (first | (with_reducible first | exact HB.out | apply hA | apply hN | apply hD | refine below_set ?_ GE390.out | refine below_set ?_ GE391.out) | exact HB.out)) hb)
   clear BK390
   clear BK391
   clear HB
   have BK390 := n0_
   have BK391 := n1_
   have HB := n2_
   clear n0_ n1_ n2_
   (try clear hb)
   (try clear hb2)
   (try clear hk)
   (try clear hi)
   refine hK.out _ _ ⟨(blk_cell BK390.out 0).trans rfl, (blk_cell BK390.out 1).trans rfl, (blk_cell BK391.out 0).trans rfl, (blk_cell BK391.out 1).trans rfl⟩ (fun hHeld => ?_)
   clear hK K
   refine norm_ (a' := ?_) ?_ ?_
   rotate_left
   · show Act.put _ (some 8) _ = _
     simp only [Act.put, sA, sB, sC, i64_w, i32_w]
     rfl
   refine last_ (i := 4) (N := none) #[Y,Y,Y,Y,Y,Z] rfl rfl (by kernel_rfl) (by decide) (fun K hK => ?_)
   have hs12 : w11.cell? ⟨gb390, 0, none⟩ = some (.int .i64 a0_0) := (blk_cell BK390.out 0).trans rfl
   have hfs12 := blk_frozen BK390.out 0
   have hns12_1 := NB391_390.out
   have hms12_1 := NB390_391.out
   have hs13 : w11.cell? ⟨gb390, 1, none⟩ = some (.int .i64 a0_1) := (blk_cell BK390.out 1).trans rfl
   have hfs13 := blk_frozen BK390.out 1
   have hns13_1 := NB391_390.out
   have hms13_1 := NB390_391.out
   refine skip_ (w1 := ?_) (by rfl) rfl ?_ ?_
   rotate_left
   · go_simp
     rfl
   refine hK.out _ _ ?_
   clear hK K
   refine last_ (i := 5) (N := none) #[Y,Y,Y,Y,Y,Y] rfl rfl (by kernel_rfl) (by decide) (fun K hK => ?_)
   have hs14 : w11.cell? ⟨gb391, 0, none⟩ = some (.int .i64 a1_0) := (blk_cell BK391.out 0).trans rfl
   have hfs14 := blk_frozen BK391.out 0
   have hns14_0 := NB390_391.out
   have hms14_0 := NB391_390.out
   have hs15 : w11.cell? ⟨gb391, 1, none⟩ = some (.int .i64 a1_1) := (blk_cell BK391.out 1).trans rfl
   have hfs15 := blk_frozen BK391.out 1
   have hns15_0 := NB390_391.out
   have hms15_0 := NB391_390.out
   refine skip_ (w1 := ?_) (by rfl) rfl ?_ ?_
   rotate_left
   · go_simp
     rfl
   refine hK.out _ _ ?_
   clear hK K
   refine done_ (by kernel_rfl) ?_
   try go_wp2
   have n0_ : Aside0 (((((w11.setCell ⟨gb390, 0, none⟩ (.int .i64 t392)).setCell ⟨gb390, 1, none⟩ (.int .i64 t393)).setCell ⟨gb391, 0, none⟩ (.int .i64 t394)).setCell ⟨gb391, 1, none⟩ (.int .i64 t395)).heap[gb390]? = some (.cells #[.int .i64 t392, .int .i64 t393] 25 (0, 0))) := ⟨by (with_reducible repeat (first | refine bR ?_ | refine bA ?_ _)); refine blk_far ?_ NB390_391.out _; (with_reducible repeat (first | refine bR ?_ | refine bA ?_ _)); refine blk_far ?_ NB390_391.out _; (with_reducible repeat (first | refine bR ?_ | refine bA ?_ _)); refine blk_put (cs := #[.int .i64 t392, .int .i64 a0_1]) ?_ 1 _ rfl; (with_reducible repeat (first | refine bR ?_ | refine bA ?_ _)); refine blk_put (cs := #[.int .i64 a0_0, .int .i64 a0_1]) ?_ 0 _ rfl; (with_reducible repeat (first | refine bR ?_ | refine bA ?_ _)); exact BK390.out⟩
   have n1_ : Aside0 (((((w11.setCell ⟨gb390, 0, none⟩ (.int .i64 t392)).setCell ⟨gb390, 1, none⟩ (.int .i64 t393)).setCell ⟨gb391, 0, none⟩ (.int .i64 t394)).setCell ⟨gb391, 1, none⟩ (.int .i64 t395)).heap[gb391]? = some (.cells #[.int .i64 t394, .int .i64 t395] 25 (0, 0))) := ⟨by (with_reducible repeat (first | refine bR ?_ | refine bA ?_ _)); refine blk_put (cs := #[.int .i64 t394, .int .i64 a1_1]) ?_ 1 _ rfl; (with_reducible repeat (first | refine bR ?_ | refine bA ?_ _)); refine blk_put (cs := #[.int .i64 a1_0, .int .i64 a1_1]) ?_ 0 _ rfl; (with_reducible repeat (first | refine bR ?_ | refine bA ?_ _)); refine blk_far ?_ NB391_390.out _; (with_reducible repeat (first | refine bR ?_ | refine bA ?_ _)); refine blk_far ?_ NB391_390.out _; (with_reducible repeat (first | refine bR ?_ | refine bA ?_ _)); exact BK391.out⟩
   have n2_ : Aside0 (Below w.heap.size w ((((w11.setCell ⟨gb390, 0, none⟩ (.int .i64 t392)).setCell ⟨gb390, 1, none⟩ (.int .i64 t393)).setCell ⟨gb391, 0, none⟩ (.int .i64 t394)).setCell ⟨gb391, 1, none⟩ (.int .i64 t395))) := ⟨by repeat (first | (with_reducible first | exact HB.out | apply hA | apply hN | apply hD | refine below_set ?_ GE390.out | refine below_set ?_ GE391.out) | exact HB.out)⟩
   (try clear BK390)
   (try clear BK391)
   (try clear HB)
   generalize ((((w11.setCell ⟨gb390, 0, none⟩ (.int .i64 t392)).setCell ⟨gb390, 1, none⟩ (.int .i64 t393)).setCell ⟨gb391, 0, none⟩ (.int .i64 t394)).setCell ⟨gb391, 1, none⟩ (.int .i64 t395)) = w16 at n0_ n1_ n2_ ⊢
   have BK390 := n0_
   have BK391 := n1_
   have HB := n2_
   clear n0_ n1_ n2_
   have n0_ := aK (blk_drew BK390.out)
   have n1_ := aK (blk_drew BK391.out)
   have n2_ := aK (below_drew1 HB.out)
   clear BK390
   clear BK391
   clear HB
   have BK390 := n0_
   have BK391 := n1_
   have HB := n2_
   clear n0_ n1_ n2_
   refine start_ (n := 4) (S := fun w' => w'.cell? ⟨gb390, 0, none⟩ = some (.int .i64 t392) ∧ w'.cell? ⟨gb390, 1, none⟩ = some (.int .i64 t393)) (ds := []) #[Z,Z,Z,Z] (by kernel_rfl) rfl rfl ⟨(blk_cell BK390.out 0).trans rfl, (blk_cell BK390.out 1).trans rfl⟩ (fun hHeld => ?_)
   generalize w16.drew = w17 at BK390 BK391 HB hHeld ⊢
   refine take_ (i := 0) (N := some 10) (v := ?_) (a' := ?_) #[Y,Z,Z,Z] rfl rfl (by kernel_rfl) (fun _ _ _ h => h) (Or.inl ⟨by rfl, ?_⟩) hHeld ?_ ?_
   rotate_left
   · rintro w' ⟨s0, s1⟩
     go_simp
     with_reducible rfl
   rotate_left
   · simp only [Act.put, sA, sB, sC, i64_w, i32_w]
     rfl
   refine one_ (i := 1) (N := some 11) #[Y,Y,Z,Z] rfl rfl (by kernel_rfl) (by decide) (fun K hK => ?_)
   refine goes_ Tryd.func21 (by kernel_rfl) rfl #[] (by rfl) rfl rfl (by (try simp only [mA, mB, mC]); first | done | rfl) ?_
   with_reducible refine (timeboundref08_None.calls  t396 t397 _ A5.out).mono ?_
   rintro e w18 ⟨rfl, hb⟩
   refine ⟨_, rfl, ?_⟩
   have n0_ := aK (blk_below (g := gb390) (o := .cells #[.int .i64 t392, .int .i64 t393] 25 (0, 0)) (by (with_reducible repeat (first | refine bR ?_ | refine bA ?_ _)); exact BK390.out) hb)
   have n1_ := aK (blk_below (g := gb391) (o := .cells #[.int .i64 t394, .int .i64 t395] 25 (0, 0)) (by (with_reducible repeat (first | refine bR ?_ | refine bA ?_ _)); exact BK391.out) hb)
   have n2_ := aK (below_step (by repeat (first | (with_reducible first | exact HB.out | apply hA | apply hN | apply hD | refine below_set ?_ GE390.out | refine below_set ?_ GE391.out) | exact HB.out)) hb)
   clear BK390
   clear BK391
   clear HB
   have BK390 := n0_
   have BK391 := n1_
   have HB := n2_
   clear n0_ n1_ n2_
   (try clear hb)
   (try clear hb2)
   (try clear hk)
   (try clear hi)
   refine hK.out _ _ ⟨(blk_cell BK390.out 0).trans rfl, (blk_cell BK390.out 1).trans rfl⟩ (fun hHeld => ?_)
   clear hK K
   refine norm_ (a' := ?_) ?_ ?_
   rotate_left
   · show Act.put _ (some 11) _ = _
     simp only [Act.put, sA, sB, sC, i64_w, i32_w]
     rfl
   refine pure_ (i := 2) (N := some 12) (v := ?_) (a' := ?_) #[Y,Y,Y,Z] rfl rfl (by kernel_rfl) (fun _ _ _ h => h) (Or.inl ⟨by rfl, ?_⟩) ?_ ?_
   rotate_left
   · intro w'
     go_simp
     with_reducible rfl
   rotate_left
   · simp only [Act.put, sA, sB, sC, i64_w, i32_w]
     rfl
   refine pure_ (i := 3) (N := some 9) (v := ?_) (a' := ?_) #[Y,Y,Y,Y] rfl rfl (by kernel_rfl) (fun _ _ _ h => h) (Or.inl ⟨by rfl, ?_⟩) ?_ ?_
   rotate_left
   · intro w'
     go_simp
     with_reducible rfl
   rotate_left
   · simp only [Act.put, sA, sB, sC, i64_w, i32_w]
     rfl
   refine done_ (by kernel_rfl) ?_
   try go_wp2
   go_ret
   exact ⟨by first | rfl | (simp [errW_none, errW_some] <;> rfl) | (simp [*, errW_none, errW_some] <;> rfl), by repeat (first | (with_reducible first | exact HB.out | apply hA | apply hN | apply hD | refine below_set ?_ GE390.out | refine below_set ?_ GE391.out) | exact HB.out)⟩
 · rw [if_neg c6] at H
   have c6b0 : (t392 == t396 && (t393 == t397)) = false := by simpa using c6
   (try (have c6b1 : decide (t392 = t396 && (t393 == t397)) = false := by simpa using c6))
   (try (have c6b2 : (t392 == t396 && (t393 == t397)) = false := by simpa using c6))
   (try (have c6b3 : ¬ (t392 = t396 && (t393 == t397)) := by simpa using c6))
   clear c6
   replace H := Option.bind_eq_some_iff.mp H
   obtain ⟨⟨t398, t399⟩, A190, H⟩ := H
   replace H : (if (t394 == t398 && (t395 == t399)) = true then (some false) else (if t394 = 0 then (some (t392 == t394 && (t393 == t395))) else (if t392 = 0 then (some ((Int.tmod (wrap64 (t393 - t395)) t394) == 0)) else (if t392 ≥ t394 then (some ((Int.tmod (wrap64 (t393 - t395)) t394) == 0)) else (some false))))) = some r := H
   have A19 := aK A190
   clear A190
   by_cases c20 : (t394 == t398 && (t395 == t399)) = true
   · rw [if_pos c20] at H
     have c20b0 : (t394 == t398 && (t395 == t399)) = true := c20
     (try (have c20b1 : decide (t394 = t398 && (t395 == t399)) = true := by simpa using c20))
     (try (have c20b2 : (t394 == t398 && (t395 == t399)) = true := by simpa using c20))
     clear c20
     obtain rfl := Option.some.inj H
     go_enter Tryd.func35, Tryd.ntmps35
     try go_wp2_with (first | ((with_reducible refine gate_dst (N := 2) rfl ?_); refine box_event ?hg (N := 2) ?hd (cs := #[.int .i64 a0_0, .int .i64 a0_1]) (t := 25) ?hr ?_; (case hd => rfl); (case hg => rfl); (case hr => first | (go_simp; done) | (go_simp; rfl)); intro gb390 hg w21 hbox hb; have n0_ := aK (below_step (by repeat (first | (with_reducible first | exact HB.out | apply hA | apply hN | apply hD) | exact HB.out)) hb); have n1_ := aK (hbox); have n2_ := aK ((by rw [hg]; exact (below_size (by repeat (first | (with_reducible first | exact HB.out | apply hA | apply hN | apply hD) | exact HB.out))) : w.heap.size ≤ gb390)); have n3_ := aK ((by rw [hg]; exact (below_size (by repeat (first | (with_reducible first | exact HB.out | apply hA | apply hN | apply hD) | exact HB.out))) : w.heap.size ≤ gb390)); clear HB; have HB := n0_; have BK390 := n1_; have GW390 := n2_; have GE390 := n3_; clear n0_ n1_ n2_ n3_; clear hb hbox hg) | ((with_reducible refine gate_dst (N := 3) rfl ?_); refine box_event ?hg (N := 3) ?hd (cs := #[.int .i64 a1_0, .int .i64 a1_1]) (t := 25) ?hr ?_; (case hd => rfl); (case hg => rfl); (case hr => first | (go_simp; done) | (go_simp; rfl)); intro gb391 hg w22 hbox hb; have n0_ := aK (blk_below (g := gb390) (o := .cells #[.int .i64 a0_0, .int .i64 a0_1] 25 (0, 0)) (by (with_reducible repeat (first | refine bR ?_ | refine bA ?_ _)); exact BK390.out) hb); have n1_ := aK (below_step (by repeat (first | (with_reducible first | exact HB.out | apply hA | apply hN | apply hD | refine below_set ?_ GE390.out) | exact HB.out)) hb); have n2_ := aK (hbox); have n3_ := aK ((by rw [hg]; exact (below_size (by repeat (first | (with_reducible first | exact HB.out | apply hA | apply hN | apply hD | refine below_set ?_ GE390.out) | exact HB.out))) : w.heap.size ≤ gb391)); have n4_ := aK ((by rw [hg]; exact (below_size (by repeat (first | (with_reducible first | exact HB.out | apply hA | apply hN | apply hD | refine below_set ?_ GE390.out) | exact HB.out))) : w.heap.size ≤ gb391)); have n5_ := aK ((by rw [hg]; exact Nat.ne_of_lt (blk_lt (g := gb390) (o := .cells #[.int .i64 a0_0, .int .i64 a0_1] 25 (0, 0)) (by (with_reducible repeat (first | refine bR ?_ | refine bA ?_ _)); exact BK390.out)) : gb390 ≠ gb391)); have n6_ := aK ((by rw [hg]; exact Nat.ne_of_gt (blk_lt (g := gb390) (o := .cells #[.int .i64 a0_0, .int .i64 a0_1] 25 (0, 0)) (by (with_reducible repeat (first | refine bR ?_ | refine bA ?_ _)); exact BK390.out)) : gb391 ≠ gb390)); clear BK390; clear HB; have BK390 := n0_; have HB := n1_; have BK391 := n2_; have GW391 := n3_; have GE391 := n4_; have NB390_391 := n5_; have NB391_390 := n6_; clear n0_ n1_ n2_ n3_ n4_ n5_ n6_; clear hb hbox hg))
     have n0_ := aK (blk_drew BK390.out)
     have n1_ := aK (blk_drew BK391.out)
     have n2_ := aK (below_drew1 HB.out)
     clear BK390
     clear BK391
     clear HB
     have BK390 := n0_
     have BK391 := n1_
     have HB := n2_
     clear n0_ n1_ n2_
     refine start_ (n := 6) (S := fun w' => w'.cell? ⟨gb390, 0, none⟩ = some (.int .i64 a0_0) ∧ w'.cell? ⟨gb390, 1, none⟩ = some (.int .i64 a0_1) ∧ w'.cell? ⟨gb391, 0, none⟩ = some (.int .i64 a1_0) ∧ w'.cell? ⟨gb391, 1, none⟩ = some (.int .i64 a1_1)) (ds := [4, 5]) #[Z,Z,Z,Z,Z,Z] (by kernel_rfl) rfl rfl ⟨(blk_cell BK390.out 0).trans rfl, (blk_cell BK390.out 1).trans rfl, (blk_cell BK391.out 0).trans rfl, (blk_cell BK391.out 1).trans rfl⟩ (fun hHeld => ?_)
     generalize w22.drew = w23 at BK390 BK391 HB hHeld ⊢
     refine take_ (i := 0) (N := some 5) (v := ?_) (a' := ?_) #[Y,Z,Z,Z,Z,Z] rfl rfl (by kernel_rfl) (fun _ _ _ h => h) (Or.inl ⟨by rfl, ?_⟩) hHeld ?_ ?_
     rotate_left
     · rintro w' ⟨s0, s1, s2, s3⟩
       go_simp
       with_reducible rfl
     rotate_left
     · simp only [Act.put, sA, sB, sC, i64_w, i32_w]
       rfl
     refine take_ (i := 2) (N := some 7) (v := ?_) (a' := ?_) #[Y,Z,Y,Z,Z,Z] rfl rfl (by kernel_rfl) (fun _ _ _ h => h) (Or.inl ⟨by rfl, ?_⟩) hHeld ?_ ?_
     rotate_left
     · rintro w' ⟨s0, s1, s2, s3⟩
       go_simp
       with_reducible rfl
     rotate_left
     · simp only [Act.put, sA, sB, sC, i64_w, i32_w]
       rfl
     refine one_ (i := 1) (N := some 6) #[Y,Y,Y,Z,Z,Z] rfl rfl (by kernel_rfl) (by decide) (fun K hK => ?_)
     refine goes_ Tryd.func42 (by kernel_rfl) rfl #[.agg #[.int .i64 a0_0, .int .i64 a0_1]] (by rfl) rfl rfl (by (try simp only [mA, mB, mC]); first | done | rfl) ?_
     with_reducible refine (timeboundref08_Form.calls k a0_0 a0_1 t392 t393 _ A3.out).mono ?_
     rintro e w24 ⟨rfl, hb⟩
     refine ⟨_, rfl, ?_⟩
     have n0_ := aK (blk_below (g := gb390) (o := .cells #[.int .i64 a0_0, .int .i64 a0_1] 25 (0, 0)) (by (with_reducible repeat (first | refine bR ?_ | refine bA ?_ _)); exact BK390.out) hb)
     have n1_ := aK (blk_below (g := gb391) (o := .cells #[.int .i64 a1_0, .int .i64 a1_1] 25 (0, 0)) (by (with_reducible repeat (first | refine bR ?_ | refine bA ?_ _)); exact BK391.out) hb)
     have n2_ := aK (below_step (by repeat (first | (with_reducible first | exact HB.out | apply hA | apply hN | apply hD | refine below_set ?_ GE390.out | refine below_set ?_ GE391.out) | exact HB.out)) hb)
     clear BK390
     clear BK391
     clear HB
     have BK390 := n0_
     have BK391 := n1_
     have HB := n2_
     clear n0_ n1_ n2_
     (try clear hb)
     (try clear hb2)
     (try clear hk)
     (try clear hi)
     refine hK.out _ _ ⟨(blk_cell BK390.out 0).trans rfl, (blk_cell BK390.out 1).trans rfl, (blk_cell BK391.out 0).trans rfl, (blk_cell BK391.out 1).trans rfl⟩ (fun hHeld => ?_)
     clear hK K
     refine norm_ (a' := ?_) ?_ ?_
     rotate_left
     · show Act.put _ (some 6) _ = _
       simp only [Act.put, sA, sB, sC, i64_w, i32_w]
       rfl
     refine one_ (i := 3) (N := some 8) #[Y,Y,Y,Y,Z,Z] rfl rfl (by kernel_rfl) (by decide) (fun K hK => ?_)
     refine goes_ Tryd.func42 (by kernel_rfl) rfl #[.agg #[.int .i64 a1_0, .int .i64 a1_1]] (by rfl) rfl rfl (by (try simp only [mA, mB, mC]); first | done | rfl) ?_
     with_reducible refine (timeboundref08_Form.calls k a1_0 a1_1 t394 t395 _ A4.out).mono ?_
     rintro e w25 ⟨rfl, hb⟩
     refine ⟨_, rfl, ?_⟩
     have n0_ := aK (blk_below (g := gb390) (o := .cells #[.int .i64 a0_0, .int .i64 a0_1] 25 (0, 0)) (by (with_reducible repeat (first | refine bR ?_ | refine bA ?_ _)); exact BK390.out) hb)
     have n1_ := aK (blk_below (g := gb391) (o := .cells #[.int .i64 a1_0, .int .i64 a1_1] 25 (0, 0)) (by (with_reducible repeat (first | refine bR ?_ | refine bA ?_ _)); exact BK391.out) hb)
     have n2_ := aK (below_step (by repeat (first | (with_reducible first | exact HB.out | apply hA | apply hN | apply hD | refine below_set ?_ GE390.out | refine below_set ?_ GE391.out) | exact HB.out)) hb)
     clear BK390
     clear BK391
     clear HB
     have BK390 := n0_
     have BK391 := n1_
     have HB := n2_
     clear n0_ n1_ n2_
     (try clear hb)
     (try clear hb2)
     (try clear hk)
     (try clear hi)
     refine hK.out _ _ ⟨(blk_cell BK390.out 0).trans rfl, (blk_cell BK390.out 1).trans rfl, (blk_cell BK391.out 0).trans rfl, (blk_cell BK391.out 1).trans rfl⟩ (fun hHeld => ?_)
     clear hK K
     refine norm_ (a' := ?_) ?_ ?_
     rotate_left
     · show Act.put _ (some 8) _ = _
       simp only [Act.put, sA, sB, sC, i64_w, i32_w]
       rfl
     refine last_ (i := 4) (N := none) #[Y,Y,Y,Y,Y,Z] rfl rfl (by kernel_rfl) (by decide) (fun K hK => ?_)
     have hs26 : w25.cell? ⟨gb390, 0, none⟩ = some (.int .i64 a0_0) := (blk_cell BK390.out 0).trans rfl
     have hfs26 := blk_frozen BK390.out 0
     have hns26_1 := NB391_390.out
     have hms26_1 := NB390_391.out
     have hs27 : w25.cell? ⟨gb390, 1, none⟩ = some (.int .i64 a0_1) := (blk_cell BK390.out 1).trans rfl
     have hfs27 := blk_frozen BK390.out 1
     have hns27_1 := NB391_390.out
     have hms27_1 := NB390_391.out
     refine skip_ (w1 := ?_) (by rfl) rfl ?_ ?_
     rotate_left
     · go_simp
       rfl
     refine hK.out _ _ ?_
     clear hK K
     refine last_ (i := 5) (N := none) #[Y,Y,Y,Y,Y,Y] rfl rfl (by kernel_rfl) (by decide) (fun K hK => ?_)
     have hs28 : w25.cell? ⟨gb391, 0, none⟩ = some (.int .i64 a1_0) := (blk_cell BK391.out 0).trans rfl
     have hfs28 := blk_frozen BK391.out 0
     have hns28_0 := NB390_391.out
     have hms28_0 := NB391_390.out
     have hs29 : w25.cell? ⟨gb391, 1, none⟩ = some (.int .i64 a1_1) := (blk_cell BK391.out 1).trans rfl
     have hfs29 := blk_frozen BK391.out 1
     have hns29_0 := NB390_391.out
     have hms29_0 := NB391_390.out
     refine skip_ (w1 := ?_) (by rfl) rfl ?_ ?_
     rotate_left
     · go_simp
       rfl
     refine hK.out _ _ ?_
     clear hK K
     refine done_ (by kernel_rfl) ?_
     try go_wp2
     have n0_ : Aside0 (((((w25.setCell ⟨gb390, 0, none⟩ (.int .i64 t392)).setCell ⟨gb390, 1, none⟩ (.int .i64 t393)).setCell ⟨gb391, 0, none⟩ (.int .i64 t394)).setCell ⟨gb391, 1, none⟩ (.int .i64 t395)).heap[gb390]? = some (.cells #[.int .i64 t392, .int .i64 t393] 25 (0, 0))) := ⟨by (with_reducible repeat (first | refine bR ?_ | refine bA ?_ _)); refine blk_far ?_ NB390_391.out _; (with_reducible repeat (first | refine bR ?_ | refine bA ?_ _)); refine blk_far ?_ NB390_391.out _; (with_reducible repeat (first | refine bR ?_ | refine bA ?_ _)); refine blk_put (cs := #[.int .i64 t392, .int .i64 a0_1]) ?_ 1 _ rfl; (with_reducible repeat (first | refine bR ?_ | refine bA ?_ _)); refine blk_put (cs := #[.int .i64 a0_0, .int .i64 a0_1]) ?_ 0 _ rfl; (with_reducible repeat (first | refine bR ?_ | refine bA ?_ _)); exact BK390.out⟩
     have n1_ : Aside0 (((((w25.setCell ⟨gb390, 0, none⟩ (.int .i64 t392)).setCell ⟨gb390, 1, none⟩ (.int .i64 t393)).setCell ⟨gb391, 0, none⟩ (.int .i64 t394)).setCell ⟨gb391, 1, none⟩ (.int .i64 t395)).heap[gb391]? = some (.cells #[.int .i64 t394, .int .i64 t395] 25 (0, 0))) := ⟨by (with_reducible repeat (first | refine bR ?_ | refine bA ?_ _)); refine blk_put (cs := #[.int .i64 t394, .int .i64 a1_1]) ?_ 1 _ rfl; (with_reducible repeat (first | refine bR ?_ | refine bA ?_ _)); refine blk_put (cs := #[.int .i64 a1_0, .int .i64 a1_1]) ?_ 0 _ rfl; (with_reducible repeat (first | refine bR ?_ | refine bA ?_ _)); refine blk_far ?_ NB391_390.out _; (with_reducible repeat (first | refine bR ?_ | refine bA ?_ _)); refine blk_far ?_ NB391_390.out _; (with_reducible repeat (first | refine bR ?_ | refine bA ?_ _)); exact BK391.out⟩
     have n2_ : Aside0 (Below w.heap.size w ((((w25.setCell ⟨gb390, 0, none⟩ (.int .i64 t392)).setCell ⟨gb390, 1, none⟩ (.int .i64 t393)).setCell ⟨gb391, 0, none⟩ (.int .i64 t394)).setCell ⟨gb391, 1, none⟩ (.int .i64 t395))) := ⟨by repeat (first | (with_reducible first | exact HB.out | apply hA | apply hN | apply hD | refine below_set ?_ GE390.out | refine below_set ?_ GE391.out) | exact HB.out)⟩
     (try clear BK390)
     (try clear BK391)
     (try clear HB)
     generalize ((((w25.setCell ⟨gb390, 0, none⟩ (.int .i64 t392)).setCell ⟨gb390, 1, none⟩ (.int .i64 t393)).setCell ⟨gb391, 0, none⟩ (.int .i64 t394)).setCell ⟨gb391, 1, none⟩ (.int .i64 t395)) = w30 at n0_ n1_ n2_ ⊢
     have BK390 := n0_
     have BK391 := n1_
     have HB := n2_
     clear n0_ n1_ n2_
     have n0_ := aK (blk_drew BK390.out)
     have n1_ := aK (blk_drew BK391.out)
     have n2_ := aK (below_drew1 HB.out)
     clear BK390
     clear BK391
     clear HB
     have BK390 := n0_
     have BK391 := n1_
     have HB := n2_
     clear n0_ n1_ n2_
     refine start_ (n := 4) (S := fun w' => w'.cell? ⟨gb390, 0, none⟩ = some (.int .i64 t392) ∧ w'.cell? ⟨gb390, 1, none⟩ = some (.int .i64 t393)) (ds := []) #[Z,Z,Z,Z] (by kernel_rfl) rfl rfl ⟨(blk_cell BK390.out 0).trans rfl, (blk_cell BK390.out 1).trans rfl⟩ (fun hHeld => ?_)
     generalize w30.drew = w31 at BK390 BK391 HB hHeld ⊢
     refine take_ (i := 0) (N := some 10) (v := ?_) (a' := ?_) #[Y,Z,Z,Z] rfl rfl (by kernel_rfl) (fun _ _ _ h => h) (Or.inl ⟨by rfl, ?_⟩) hHeld ?_ ?_
     rotate_left
     · rintro w' ⟨s0, s1⟩
       go_simp
       with_reducible rfl
     rotate_left
     · simp only [Act.put, sA, sB, sC, i64_w, i32_w]
       rfl
     refine one_ (i := 1) (N := some 11) #[Y,Y,Z,Z] rfl rfl (by kernel_rfl) (by decide) (fun K hK => ?_)
     refine goes_ Tryd.func21 (by kernel_rfl) rfl #[] (by rfl) rfl rfl (by (try simp only [mA, mB, mC]); first | done | rfl) ?_
     with_reducible refine (timeboundref08_None.calls  t396 t397 _ A5.out).mono ?_
     rintro e w32 ⟨rfl, hb⟩
     refine ⟨_, rfl, ?_⟩
     have n0_ := aK (blk_below (g := gb390) (o := .cells #[.int .i64 t392, .int .i64 t393] 25 (0, 0)) (by (with_reducible repeat (first | refine bR ?_ | refine bA ?_ _)); exact BK390.out) hb)
     have n1_ := aK (blk_below (g := gb391) (o := .cells #[.int .i64 t394, .int .i64 t395] 25 (0, 0)) (by (with_reducible repeat (first | refine bR ?_ | refine bA ?_ _)); exact BK391.out) hb)
     have n2_ := aK (below_step (by repeat (first | (with_reducible first | exact HB.out | apply hA | apply hN | apply hD | refine below_set ?_ GE390.out | refine below_set ?_ GE391.out) | exact HB.out)) hb)
     clear BK390
     clear BK391
     clear HB
     have BK390 := n0_
     have BK391 := n1_
     have HB := n2_
     clear n0_ n1_ n2_
     (try clear hb)
     (try clear hb2)
     (try clear hk)
     (try clear hi)
     refine hK.out _ _ ⟨(blk_cell BK390.out 0).trans rfl, (blk_cell BK390.out 1).trans rfl⟩ (fun hHeld => ?_)
     clear hK K
     refine norm_ (a' := ?_) ?_ ?_
     rotate_left
     · show Act.put _ (some 11) _ = _
       simp only [Act.put, sA, sB, sC, i64_w, i32_w]
       rfl
     refine pure_ (i := 2) (N := some 12) (v := ?_) (a' := ?_) #[Y,Y,Y,Z] rfl rfl (by kernel_rfl) (fun _ _ _ h => h) (Or.inl ⟨by rfl, ?_⟩) ?_ ?_
     rotate_left
     · intro w'
       go_simp
       with_reducible rfl
     rotate_left
     · simp only [Act.put, sA, sB, sC, i64_w, i32_w]
       rfl
     refine pure_ (i := 3) (N := some 9) (v := ?_) (a' := ?_) #[Y,Y,Y,Y] rfl rfl (by kernel_rfl) (fun _ _ _ h => h) (Or.inl ⟨by rfl, ?_⟩) ?_ ?_
     rotate_left
     · intro w'
       go_simp
       with_reducible rfl
     rotate_left
     · simp only [Act.put, sA, sB, sC, i64_w, i32_w]
       rfl
     refine done_ (by kernel_rfl) ?_
     try go_wp2
     have n0_ := aK (blk_drew BK390.out)
     have n1_ := aK (blk_drew BK391.out)
     have n2_ := aK (below_drew1 HB.out)
     clear BK390
     clear BK391
     clear HB
     have BK390 := n0_
     have BK391 := n1_
     have HB := n2_
     clear n0_ n1_ n2_
     refine start_ (n := 4) (S := fun w' => w'.cell? ⟨gb391, 0, none⟩ = some (.int .i64 t394) ∧ w'.cell? ⟨gb391, 1, none⟩ = some (.int .i64 t395)) (ds := []) #[Z,Z,Z,Z] (by kernel_rfl) rfl rfl ⟨(blk_cell BK391.out 0).trans rfl, (blk_cell BK391.out 1).trans rfl⟩ (fun hHeld => ?_)
     generalize w32.drew = w33 at BK390 BK391 HB hHeld ⊢
     refine take_ (i := 0) (N := some 14) (v := ?_) (a' := ?_) #[Y,Z,Z,Z] rfl rfl (by kernel_rfl) (fun _ _ _ h => h) (Or.inl ⟨by rfl, ?_⟩) hHeld ?_ ?_
     rotate_left
     · rintro w' ⟨s0, s1⟩
       go_simp
       with_reducible rfl
     rotate_left
     · simp only [Act.put, sA, sB, sC, i64_w, i32_w]
       rfl
     refine one_ (i := 1) (N := some 15) #[Y,Y,Z,Z] rfl rfl (by kernel_rfl) (by decide) (fun K hK => ?_)
     refine goes_ Tryd.func21 (by kernel_rfl) rfl #[] (by rfl) rfl rfl (by (try simp only [mA, mB, mC]); first | done | rfl) ?_
     with_reducible refine (timeboundref08_None.calls  t398 t399 _ A19.out).mono ?_
     rintro e w34 ⟨rfl, hb⟩
     refine ⟨_, rfl, ?_⟩
     have n0_ := aK (blk_below (g := gb390) (o := .cells #[.int .i64 t392, .int .i64 t393] 25 (0, 0)) (by (with_reducible repeat (first | refine bR ?_ | refine bA ?_ _)); exact BK390.out) hb)
     have n1_ := aK (blk_below (g := gb391) (o := .cells #[.int .i64 t394, .int .i64 t395] 25 (0, 0)) (by (with_reducible repeat (first | refine bR ?_ | refine bA ?_ _)); exact BK391.out) hb)
     have n2_ := aK (below_step (by repeat (first | (with_reducible first | exact HB.out | apply hA | apply hN | apply hD | refine below_set ?_ GE390.out | refine below_set ?_ GE391.out) | exact HB.out)) hb)
     clear BK390
     clear BK391
     clear HB
     have BK390 := n0_
     have BK391 := n1_
     have HB := n2_
     clear n0_ n1_ n2_
     (try clear hb)
     (try clear hb2)
     (try clear hk)
     (try clear hi)
     refine hK.out _ _ ⟨(blk_cell BK391.out 0).trans rfl, (blk_cell BK391.out 1).trans rfl⟩ (fun hHeld => ?_)
     clear hK K
     refine norm_ (a' := ?_) ?_ ?_
     rotate_left
     · show Act.put _ (some 15) _ = _
       simp only [Act.put, sA, sB, sC, i64_w, i32_w]
       rfl
     refine pure_ (i := 2) (N := some 16) (v := ?_) (a' := ?_) #[Y,Y,Y,Z] rfl rfl (by kernel_rfl) (fun _ _ _ h => h) (Or.inl ⟨by rfl, ?_⟩) ?_ ?_
     rotate_left
     · intro w'
       go_simp
       with_reducible rfl
     rotate_left
     · simp only [Act.put, sA, sB, sC, i64_w, i32_w]
       rfl
     refine pure_ (i := 3) (N := some 13) (v := ?_) (a' := ?_) #[Y,Y,Y,Y] rfl rfl (by kernel_rfl) (fun _ _ _ h => h) (Or.inl ⟨by rfl, ?_⟩) ?_ ?_
     rotate_left
     · intro w'
       go_simp
       with_reducible rfl
     rotate_left
     · simp only [Act.put, sA, sB, sC, i64_w, i32_w]
       rfl
     refine done_ (by kernel_rfl) ?_
     try go_wp2
     go_ret
     exact ⟨by first | rfl | (simp [errW_none, errW_some] <;> rfl) | (simp [*, errW_none, errW_some] <;> rfl), by repeat (first | (with_reducible first | exact HB.out | apply hA | apply hN | apply hD | refine below_set ?_ GE390.out | refine below_set ?_ GE391.out) | exact HB.out)⟩
   · rw [if_neg c20] at H
     have c20b0 : (t394 == t398 && (t395 == t399)) = false := by simpa using c20
     (try (have c20b1 : decide (t394 = t398 && (t395 == t399)) = false := by simpa using c20))
     (try (have c20b2 : (t394 == t398 && (t395 == t399)) = false := by simpa using c20))
     (try (have c20b3 : ¬ (t394 = t398 && (t395 == t399)) := by simpa using c20))
     clear c20
     by_cases c35 : t394 = 0
     · rw [if_pos c35] at H
       have c35b0 : (t394 == 0) = true := beq_iff_eq.mpr c35
       have c35b1 : (t394 != 0) = false := bne_eq_false_iff_eq.mpr c35
       clear c35
       obtain rfl := Option.some.inj H
       go_enter Tryd.func35, Tryd.ntmps35
       try go_wp2_with (first | ((with_reducible refine gate_dst (N := 2) rfl ?_); refine box_event ?hg (N := 2) ?hd (cs := #[.int .i64 a0_0, .int .i64 a0_1]) (t := 25) ?hr ?_; (case hd => rfl); (case hg => rfl); (case hr => first | (go_simp; done) | (go_simp; rfl)); intro gb390 hg w36 hbox hb; have n0_ := aK (below_step (by repeat (first | (with_reducible first | exact HB.out | apply hA | apply hN | apply hD) | exact HB.out)) hb); have n1_ := aK (hbox); have n2_ := aK ((by rw [hg]; exact (below_size (by repeat (first | (with_reducible first | exact HB.out | apply hA | apply hN | apply hD) | exact HB.out))) : w.heap.size ≤ gb390)); have n3_ := aK ((by rw [hg]; exact (below_size (by repeat (first | (with_reducible first | exact HB.out | apply hA | apply hN | apply hD) | exact HB.out))) : w.heap.size ≤ gb390)); clear HB; have HB := n0_; have BK390 := n1_; have GW390 := n2_; have GE390 := n3_; clear n0_ n1_ n2_ n3_; clear hb hbox hg) | ((with_reducible refine gate_dst (N := 3) rfl ?_); refine box_event ?hg (N := 3) ?hd (cs := #[.int .i64 a1_0, .int .i64 a1_1]) (t := 25) ?hr ?_; (case hd => rfl); (case hg => rfl); (case hr => first | (go_simp; done) | (go_simp; rfl)); intro gb391 hg w37 hbox hb; have n0_ := aK (blk_below (g := gb390) (o := .cells #[.int .i64 a0_0, .int .i64 a0_1] 25 (0, 0)) (by (with_reducible repeat (first | refine bR ?_ | refine bA ?_ _)); exact BK390.out) hb); have n1_ := aK (below_step (by repeat (first | (with_reducible first | exact HB.out | apply hA | apply hN | apply hD | refine below_set ?_ GE390.out) | exact HB.out)) hb); have n2_ := aK (hbox); have n3_ := aK ((by rw [hg]; exact (below_size (by repeat (first | (with_reducible first | exact HB.out | apply hA | apply hN | apply hD | refine below_set ?_ GE390.out) | exact HB.out))) : w.heap.size ≤ gb391)); have n4_ := aK ((by rw [hg]; exact (below_size (by repeat (first | (with_reducible first | exact HB.out | apply hA | apply hN | apply hD | refine below_set ?_ GE390.out) | exact HB.out))) : w.heap.size ≤ gb391)); have n5_ := aK ((by rw [hg]; exact Nat.ne_of_lt (blk_lt (g := gb390) (o := .cells #[.int .i64 a0_0, .int .i64 a0_1] 25 (0, 0)) (by (with_reducible repeat (first | refine bR ?_ | refine bA ?_ _)); exact BK390.out)) : gb390 ≠ gb391)); have n6_ := aK ((by rw [hg]; exact Nat.ne_of_gt (blk_lt (g := gb390) (o := .cells #[.int .i64 a0_0, .int .i64 a0_1] 25 (0, 0)) (by (with_reducible repeat (first | refine bR ?_ | refine bA ?_ _)); exact BK390.out)) : gb391 ≠ gb390)); clear BK390; clear HB; have BK390 := n0_; have HB := n1_; have BK391 := n2_; have GW391 := n3_; have GE391 := n4_; have NB390_391 := n5_; have NB391_390 := n6_; clear n0_ n1_ n2_ n3_ n4_ n5_ n6_; clear hb hbox hg))
       have n0_ := aK (blk_drew BK390.out)
       have n1_ := aK (blk_drew BK391.out)
       have n2_ := aK (below_drew1 HB.out)
       clear BK390
       clear BK391
       clear HB
       have BK390 := n0_
       have BK391 := n1_
       have HB := n2_
       clear n0_ n1_ n2_
       refine start_ (n := 6) (S := fun w' => w'.cell? ⟨gb390, 0, none⟩ = some (.int .i64 a0_0) ∧ w'.cell? ⟨gb390, 1, none⟩ = some (.int .i64 a0_1) ∧ w'.cell? ⟨gb391, 0, none⟩ = some (.int .i64 a1_0) ∧ w'.cell? ⟨gb391, 1, none⟩ = some (.int .i64 a1_1)) (ds := [4, 5]) #[Z,Z,Z,Z,Z,Z] (by kernel_rfl) rfl rfl ⟨(blk_cell BK390.out 0).trans rfl, (blk_cell BK390.out 1).trans rfl, (blk_cell BK391.out 0).trans rfl, (blk_cell BK391.out 1).trans rfl⟩ (fun hHeld => ?_)
       generalize w37.drew = w38 at BK390 BK391 HB hHeld ⊢
       refine take_ (i := 0) (N := some 5) (v := ?_) (a' := ?_) #[Y,Z,Z,Z,Z,Z] rfl rfl (by kernel_rfl) (fun _ _ _ h => h) (Or.inl ⟨by rfl, ?_⟩) hHeld ?_ ?_
       rotate_left
       · rintro w' ⟨s0, s1, s2, s3⟩
         go_simp
         with_reducible rfl
       rotate_left
       · simp only [Act.put, sA, sB, sC, i64_w, i32_w]
         rfl
       refine take_ (i := 2) (N := some 7) (v := ?_) (a' := ?_) #[Y,Z,Y,Z,Z,Z] rfl rfl (by kernel_rfl) (fun _ _ _ h => h) (Or.inl ⟨by rfl, ?_⟩) hHeld ?_ ?_
       rotate_left
       · rintro w' ⟨s0, s1, s2, s3⟩
         go_simp
         with_reducible rfl
       rotate_left
       · simp only [Act.put, sA, sB, sC, i64_w, i32_w]
         rfl
       refine one_ (i := 1) (N := some 6) #[Y,Y,Y,Z,Z,Z] rfl rfl (by kernel_rfl) (by decide) (fun K hK => ?_)
       refine goes_ Tryd.func42 (by kernel_rfl) rfl #[.agg #[.int .i64 a0_0, .int .i64 a0_1]] (by rfl) rfl rfl (by (try simp only [mA, mB, mC]); first | done | rfl) ?_
       with_reducible refine (timeboundref08_Form.calls k a0_0 a0_1 t392 t393 _ A3.out).mono ?_
       rintro e w39 ⟨rfl, hb⟩
       refine ⟨_, rfl, ?_⟩
       have n0_ := aK (blk_below (g := gb390) (o := .cells #[.int .i64 a0_0, .int .i64 a0_1] 25 (0, 0)) (by (with_reducible repeat (first | refine bR ?_ | refine bA ?_ _)); exact BK390.out) hb)
       have n1_ := aK (blk_below (g := gb391) (o := .cells #[.int .i64 a1_0, .int .i64 a1_1] 25 (0, 0)) (by (with_reducible repeat (first | refine bR ?_ | refine bA ?_ _)); exact BK391.out) hb)
       have n2_ := aK (below_step (by repeat (first | (with_reducible first | exact HB.out | apply hA | apply hN | apply hD | refine below_set ?_ GE390.out | refine below_set ?_ GE391.out) | exact HB.out)) hb)
       clear BK390
       clear BK391
       clear HB
       have BK390 := n0_
       have BK391 := n1_
       have HB := n2_
       clear n0_ n1_ n2_
       (try clear hb)
       (try clear hb2)
       (try clear hk)
       (try clear hi)
       refine hK.out _ _ ⟨(blk_cell BK390.out 0).trans rfl, (blk_cell BK390.out 1).trans rfl, (blk_cell BK391.out 0).trans rfl, (blk_cell BK391.out 1).trans rfl⟩ (fun hHeld => ?_)
       clear hK K
       refine norm_ (a' := ?_) ?_ ?_
       rotate_left
       · show Act.put _ (some 6) _ = _
         simp only [Act.put, sA, sB, sC, i64_w, i32_w]
         rfl
       refine one_ (i := 3) (N := some 8) #[Y,Y,Y,Y,Z,Z] rfl rfl (by kernel_rfl) (by decide) (fun K hK => ?_)
       refine goes_ Tryd.func42 (by kernel_rfl) rfl #[.agg #[.int .i64 a1_0, .int .i64 a1_1]] (by rfl) rfl rfl (by (try simp only [mA, mB, mC]); first | done | rfl) ?_
       with_reducible refine (timeboundref08_Form.calls k a1_0 a1_1 t394 t395 _ A4.out).mono ?_
       rintro e w40 ⟨rfl, hb⟩
       refine ⟨_, rfl, ?_⟩
       have n0_ := aK (blk_below (g := gb390) (o := .cells #[.int .i64 a0_0, .int .i64 a0_1] 25 (0, 0)) (by (with_reducible repeat (first | refine bR ?_ | refine bA ?_ _)); exact BK390.out) hb)
       have n1_ := aK (blk_below (g := gb391) (o := .cells #[.int .i64 a1_0, .int .i64 a1_1] 25 (0, 0)) (by (with_reducible repeat (first | refine bR ?_ | refine bA ?_ _)); exact BK391.out) hb)
       have n2_ := aK (below_step (by repeat (first | (with_reducible first | exact HB.out | apply hA | apply hN | apply hD | refine below_set ?_ GE390.out | refine below_set ?_ GE391.out) | exact HB.out)) hb)
       clear BK390
       clear BK391
       clear HB
       have BK390 := n0_
       have BK391 := n1_
       have HB := n2_
       clear n0_ n1_ n2_
       (try clear hb)
       (try clear hb2)
       (try clear hk)
       (try clear hi)
       refine hK.out _ _ ⟨(blk_cell BK390.out 0).trans rfl, (blk_cell BK390.out 1).trans rfl, (blk_cell BK391.out 0).trans rfl, (blk_cell BK391.out 1).trans rfl⟩ (fun hHeld => ?_)
       clear hK K
       refine norm_ (a' := ?_) ?_ ?_
       rotate_left
       · show Act.put _ (some 8) _ = _
         simp only [Act.put, sA, sB, sC, i64_w, i32_w]
         rfl
       refine last_ (i := 4) (N := none) #[Y,Y,Y,Y,Y,Z] rfl rfl (by kernel_rfl) (by decide) (fun K hK => ?_)
       have hs41 : w40.cell? ⟨gb390, 0, none⟩ = some (.int .i64 a0_0) := (blk_cell BK390.out 0).trans rfl
       have hfs41 := blk_frozen BK390.out 0
       have hns41_1 := NB391_390.out
       have hms41_1 := NB390_391.out
       have hs42 : w40.cell? ⟨gb390, 1, none⟩ = some (.int .i64 a0_1) := (blk_cell BK390.out 1).trans rfl
       have hfs42 := blk_frozen BK390.out 1
       have hns42_1 := NB391_390.out
       have hms42_1 := NB390_391.out
       refine skip_ (w1 := ?_) (by rfl) rfl ?_ ?_
       rotate_left
       · go_simp
         rfl
       refine hK.out _ _ ?_
       clear hK K
       refine last_ (i := 5) (N := none) #[Y,Y,Y,Y,Y,Y] rfl rfl (by kernel_rfl) (by decide) (fun K hK => ?_)
       have hs43 : w40.cell? ⟨gb391, 0, none⟩ = some (.int .i64 a1_0) := (blk_cell BK391.out 0).trans rfl
       have hfs43 := blk_frozen BK391.out 0
       have hns43_0 := NB390_391.out
       have hms43_0 := NB391_390.out
       have hs44 : w40.cell? ⟨gb391, 1, none⟩ = some (.int .i64 a1_1) := (blk_cell BK391.out 1).trans rfl
       have hfs44 := blk_frozen BK391.out 1
       have hns44_0 := NB390_391.out
       have hms44_0 := NB391_390.out
       refine skip_ (w1 := ?_) (by rfl) rfl ?_ ?_
       rotate_left
       · go_simp
         rfl
       refine hK.out _ _ ?_
       clear hK K
       refine done_ (by kernel_rfl) ?_
       try go_wp2
       have n0_ : Aside0 (((((w40.setCell ⟨gb390, 0, none⟩ (.int .i64 t392)).setCell ⟨gb390, 1, none⟩ (.int .i64 t393)).setCell ⟨gb391, 0, none⟩ (.int .i64 t394)).setCell ⟨gb391, 1, none⟩ (.int .i64 t395)).heap[gb390]? = some (.cells #[.int .i64 t392, .int .i64 t393] 25 (0, 0))) := ⟨by (with_reducible repeat (first | refine bR ?_ | refine bA ?_ _)); refine blk_far ?_ NB390_391.out _; (with_reducible repeat (first | refine bR ?_ | refine bA ?_ _)); refine blk_far ?_ NB390_391.out _; (with_reducible repeat (first | refine bR ?_ | refine bA ?_ _)); refine blk_put (cs := #[.int .i64 t392, .int .i64 a0_1]) ?_ 1 _ rfl; (with_reducible repeat (first | refine bR ?_ | refine bA ?_ _)); refine blk_put (cs := #[.int .i64 a0_0, .int .i64 a0_1]) ?_ 0 _ rfl; (with_reducible repeat (first | refine bR ?_ | refine bA ?_ _)); exact BK390.out⟩
       have n1_ : Aside0 (((((w40.setCell ⟨gb390, 0, none⟩ (.int .i64 t392)).setCell ⟨gb390, 1, none⟩ (.int .i64 t393)).setCell ⟨gb391, 0, none⟩ (.int .i64 t394)).setCell ⟨gb391, 1, none⟩ (.int .i64 t395)).heap[gb391]? = some (.cells #[.int .i64 t394, .int .i64 t395] 25 (0, 0))) := ⟨by (with_reducible repeat (first | refine bR ?_ | refine bA ?_ _)); refine blk_put (cs := #[.int .i64 t394, .int .i64 a1_1]) ?_ 1 _ rfl; (with_reducible repeat (first | refine bR ?_ | refine bA ?_ _)); refine blk_put (cs := #[.int .i64 a1_0, .int .i64 a1_1]) ?_ 0 _ rfl; (with_reducible repeat (first | refine bR ?_ | refine bA ?_ _)); refine blk_far ?_ NB391_390.out _; (with_reducible repeat (first | refine bR ?_ | refine bA ?_ _)); refine blk_far ?_ NB391_390.out _; (with_reducible repeat (first | refine bR ?_ | refine bA ?_ _)); exact BK391.out⟩
       have n2_ : Aside0 (Below w.heap.size w ((((w40.setCell ⟨gb390, 0, none⟩ (.int .i64 t392)).setCell ⟨gb390, 1, none⟩ (.int .i64 t393)).setCell ⟨gb391, 0, none⟩ (.int .i64 t394)).setCell ⟨gb391, 1, none⟩ (.int .i64 t395))) := ⟨by repeat (first | (with_reducible first | exact HB.out | apply hA | apply hN | apply hD | refine below_set ?_ GE390.out | refine below_set ?_ GE391.out) | exact HB.out)⟩
       (try clear BK390)
       (try clear BK391)
       (try clear HB)
       generalize ((((w40.setCell ⟨gb390, 0, none⟩ (.int .i64 t392)).setCell ⟨gb390, 1, none⟩ (.int .i64 t393)).setCell ⟨gb391, 0, none⟩ (.int .i64 t394)).setCell ⟨gb391, 1, none⟩ (.int .i64 t395)) = w45 at n0_ n1_ n2_ ⊢
       have BK390 := n0_
       have BK391 := n1_
       have HB := n2_
       clear n0_ n1_ n2_
       have n0_ := aK (blk_drew BK390.out)
       have n1_ := aK (blk_drew BK391.out)
       have n2_ := aK (below_drew1 HB.out)
       clear BK390
       clear BK391
       clear HB
       have BK390 := n0_
       have BK391 := n1_
       have HB := n2_
       clear n0_ n1_ n2_
       refine start_ (n := 4) (S := fun w' => w'.cell? ⟨gb390, 0, none⟩ = some (.int .i64 t392) ∧ w'.cell? ⟨gb390, 1, none⟩ = some (.int .i64 t393)) (ds := []) #[Z,Z,Z,Z] (by kernel_rfl) rfl rfl ⟨(blk_cell BK390.out 0).trans rfl, (blk_cell BK390.out 1).trans rfl⟩ (fun hHeld => ?_)
       generalize w45.drew = w46 at BK390 BK391 HB hHeld ⊢
       refine take_ (i := 0) (N := some 10) (v := ?_) (a' := ?_) #[Y,Z,Z,Z] rfl rfl (by kernel_rfl) (fun _ _ _ h => h) (Or.inl ⟨by rfl, ?_⟩) hHeld ?_ ?_
       rotate_left
       · rintro w' ⟨s0, s1⟩
         go_simp
         with_reducible rfl
       rotate_left
       · simp only [Act.put, sA, sB, sC, i64_w, i32_w]
         rfl
       refine one_ (i := 1) (N := some 11) #[Y,Y,Z,Z] rfl rfl (by kernel_rfl) (by decide) (fun K hK => ?_)
       refine goes_ Tryd.func21 (by kernel_rfl) rfl #[] (by rfl) rfl rfl (by (try simp only [mA, mB, mC]); first | done | rfl) ?_
       with_reducible refine (timeboundref08_None.calls  t396 t397 _ A5.out).mono ?_
       rintro e w47 ⟨rfl, hb⟩
       refine ⟨_, rfl, ?_⟩
       have n0_ := aK (blk_below (g := gb390) (o := .cells #[.int .i64 t392, .int .i64 t393] 25 (0, 0)) (by (with_reducible repeat (first | refine bR ?_ | refine bA ?_ _)); exact BK390.out) hb)
       have n1_ := aK (blk_below (g := gb391) (o := .cells #[.int .i64 t394, .int .i64 t395] 25 (0, 0)) (by (with_reducible repeat (first | refine bR ?_ | refine bA ?_ _)); exact BK391.out) hb)
       have n2_ := aK (below_step (by repeat (first | (with_reducible first | exact HB.out | apply hA | apply hN | apply hD | refine below_set ?_ GE390.out | refine below_set ?_ GE391.out) | exact HB.out)) hb)
       clear BK390
       clear BK391
       clear HB
       have BK390 := n0_
       have BK391 := n1_
       have HB := n2_
       clear n0_ n1_ n2_
       (try clear hb)
       (try clear hb2)
       (try clear hk)
       (try clear hi)
       refine hK.out _ _ ⟨(blk_cell BK390.out 0).trans rfl, (blk_cell BK390.out 1).trans rfl⟩ (fun hHeld => ?_)
       clear hK K
       refine norm_ (a' := ?_) ?_ ?_
       rotate_left
       · show Act.put _ (some 11) _ = _
         simp only [Act.put, sA, sB, sC, i64_w, i32_w]
         rfl
       refine pure_ (i := 2) (N := some 12) (v := ?_) (a' := ?_) #[Y,Y,Y,Z] rfl rfl (by kernel_rfl) (fun _ _ _ h => h) (Or.inl ⟨by rfl, ?_⟩) ?_ ?_
       rotate_left
       · intro w'
         go_simp
         with_reducible rfl
       rotate_left
       · simp only [Act.put, sA, sB, sC, i64_w, i32_w]
         rfl
       refine pure_ (i := 3) (N := some 9) (v := ?_) (a' := ?_) #[Y,Y,Y,Y] rfl rfl (by kernel_rfl) (fun _ _ _ h => h) (Or.inl ⟨by rfl, ?_⟩) ?_ ?_
       rotate_left
       · intro w'
         go_simp
         with_reducible rfl
       rotate_left
       · simp only [Act.put, sA, sB, sC, i64_w, i32_w]
         rfl
       refine done_ (by kernel_rfl) ?_
       try go_wp2
       have n0_ := aK (blk_drew BK390.out)
       have n1_ := aK (blk_drew BK391.out)
       have n2_ := aK (below_drew1 HB.out)
       clear BK390
       clear BK391
       clear HB
       have BK390 := n0_
       have BK391 := n1_
       have HB := n2_
       clear n0_ n1_ n2_
       refine start_ (n := 4) (S := fun w' => w'.cell? ⟨gb391, 0, none⟩ = some (.int .i64 t394) ∧ w'.cell? ⟨gb391, 1, none⟩ = some (.int .i64 t395)) (ds := []) #[Z,Z,Z,Z] (by kernel_rfl) rfl rfl ⟨(blk_cell BK391.out 0).trans rfl, (blk_cell BK391.out 1).trans rfl⟩ (fun hHeld => ?_)
       generalize w47.drew = w48 at BK390 BK391 HB hHeld ⊢
       refine take_ (i := 0) (N := some 14) (v := ?_) (a' := ?_) #[Y,Z,Z,Z] rfl rfl (by kernel_rfl) (fun _ _ _ h => h) (Or.inl ⟨by rfl, ?_⟩) hHeld ?_ ?_
       rotate_left
       · rintro w' ⟨s0, s1⟩
         go_simp
         with_reducible rfl
       rotate_left
       · simp only [Act.put, sA, sB, sC, i64_w, i32_w]
         rfl
       refine one_ (i := 1) (N := some 15) #[Y,Y,Z,Z] rfl rfl (by kernel_rfl) (by decide) (fun K hK => ?_)
       refine goes_ Tryd.func21 (by kernel_rfl) rfl #[] (by rfl) rfl rfl (by (try simp only [mA, mB, mC]); first | done | rfl) ?_
       with_reducible refine (timeboundref08_None.calls  t398 t399 _ A19.out).mono ?_
       rintro e w49 ⟨rfl, hb⟩
       refine ⟨_, rfl, ?_⟩
       have n0_ := aK (blk_below (g := gb390) (o := .cells #[.int .i64 t392, .int .i64 t393] 25 (0, 0)) (by (with_reducible repeat (first | refine bR ?_ | refine bA ?_ _)); exact BK390.out) hb)
       have n1_ := aK (blk_below (g := gb391) (o := .cells #[.int .i64 t394, .int .i64 t395] 25 (0, 0)) (by (with_reducible repeat (first | refine bR ?_ | refine bA ?_ _)); exact BK391.out) hb)
       have n2_ := aK (below_step (by repeat (first | (with_reducible first | exact HB.out | apply hA | apply hN | apply hD | refine below_set ?_ GE390.out | refine below_set ?_ GE391.out) | exact HB.out)) hb)
       clear BK390
       clear BK391
       clear HB
       have BK390 := n0_
       have BK391 := n1_
       have HB := n2_
       clear n0_ n1_ n2_
       (try clear hb)
       (try clear hb2)
       (try clear hk)
       (try clear hi)
       refine hK.out _ _ ⟨(blk_cell BK391.out 0).trans rfl, (blk_cell BK391.out 1).trans rfl⟩ (fun hHeld => ?_)
       clear hK K
       refine norm_ (a' := ?_) ?_ ?_
       rotate_left
       · show Act.put _ (some 15) _ = _
         simp only [Act.put, sA, sB, sC, i64_w, i32_w]
         rfl
       refine pure_ (i := 2) (N := some 16) (v := ?_) (a' := ?_) #[Y,Y,Y,Z] rfl rfl (by kernel_rfl) (fun _ _ _ h => h) (Or.inl ⟨by rfl, ?_⟩) ?_ ?_
       rotate_left
       · intro w'
         go_simp
         with_reducible rfl
       rotate_left
       · simp only [Act.put, sA, sB, sC, i64_w, i32_w]
         rfl
       refine pure_ (i := 3) (N := some 13) (v := ?_) (a' := ?_) #[Y,Y,Y,Y] rfl rfl (by kernel_rfl) (fun _ _ _ h => h) (Or.inl ⟨by rfl, ?_⟩) ?_ ?_
       rotate_left
       · intro w'
         go_simp
         with_reducible rfl
       rotate_left
       · simp only [Act.put, sA, sB, sC, i64_w, i32_w]
         rfl
       refine done_ (by kernel_rfl) ?_
       have hnb50 := NB391_390.out
       have hnc50 := NB390_391.out
       have hcz51_0 : w49.cell? ⟨gb391, 0, none⟩ = some (.int .i64 t394) := (blk_cell BK391.out 0).trans rfl
       have hcz51_1 : w49.cell? ⟨gb391, 1, none⟩ = some (.int .i64 t395) := (blk_cell BK391.out 1).trans rfl
       have hfz51_0 := blk_frozen BK391.out 0
       have hfz51_1 := blk_frozen BK391.out 1
       have hcz52_0 : w49.cell? ⟨gb390, 0, none⟩ = some (.int .i64 t392) := (blk_cell BK390.out 0).trans rfl
       have hcz52_1 : w49.cell? ⟨gb390, 1, none⟩ = some (.int .i64 t393) := (blk_cell BK390.out 1).trans rfl
       have hfz52_0 := blk_frozen BK390.out 0
       have hfz52_1 := blk_frozen BK390.out 1
       try go_wp2
       go_ret
       exact ⟨by first | rfl | (simp [errW_none, errW_some] <;> rfl) | (simp [*, errW_none, errW_some] <;> rfl), by repeat (first | (with_reducible first | exact HB.out | apply hA | apply hN | apply hD | refine below_set ?_ GE390.out | refine below_set ?_ GE391.out) | exact HB.out)⟩
     · rw [if_neg c35] at H
       have c35b0 : (t394 == 0) = false := beq_eq_false_iff_ne.mpr c35
       have c35b1 : (t394 != 0) = true := bne_iff_ne.mpr c35
       by_cases c53 : t392 = 0
       · rw [if_pos c53] at H
         have c53b0 : (t392 == 0) = true := beq_iff_eq.mpr c53
         have c53b1 : (t392 != 0) = false := bne_eq_false_iff_eq.mpr c53
         clear c53
         obtain rfl := Option.some.inj H
         go_enter Tryd.func35, Tryd.ntmps35
         try go_wp2_with (first | ((with_reducible refine gate_dst (N := 2) rfl ?_); refine box_event ?hg (N := 2) ?hd (cs := #[.int .i64 a0_0, .int .i64 a0_1]) (t := 25) ?hr ?_; (case hd => rfl); (case hg => rfl); (case hr => first | (go_simp; done) | (go_simp; rfl)); intro gb390 hg w54 hbox hb; have n0_ := aK (below_step (by repeat (first | (with_reducible first | exact HB.out | apply hA | apply hN | apply hD) | exact HB.out)) hb); have n1_ := aK (hbox); have n2_ := aK ((by rw [hg]; exact (below_size (by repeat (first | (with_reducible first | exact HB.out | apply hA | apply hN | apply hD) | exact HB.out))) : w.heap.size ≤ gb390)); have n3_ := aK ((by rw [hg]; exact (below_size (by repeat (first | (with_reducible first | exact HB.out | apply hA | apply hN | apply hD) | exact HB.out))) : w.heap.size ≤ gb390)); clear HB; have HB := n0_; have BK390 := n1_; have GW390 := n2_; have GE390 := n3_; clear n0_ n1_ n2_ n3_; clear hb hbox hg) | ((with_reducible refine gate_dst (N := 3) rfl ?_); refine box_event ?hg (N := 3) ?hd (cs := #[.int .i64 a1_0, .int .i64 a1_1]) (t := 25) ?hr ?_; (case hd => rfl); (case hg => rfl); (case hr => first | (go_simp; done) | (go_simp; rfl)); intro gb391 hg w55 hbox hb; have n0_ := aK (blk_below (g := gb390) (o := .cells #[.int .i64 a0_0, .int .i64 a0_1] 25 (0, 0)) (by (with_reducible repeat (first | refine bR ?_ | refine bA ?_ _)); exact BK390.out) hb); have n1_ := aK (below_step (by repeat (first | (with_reducible first | exact HB.out | apply hA | apply hN | apply hD | refine below_set ?_ GE390.out) | exact HB.out)) hb); have n2_ := aK (hbox); have n3_ := aK ((by rw [hg]; exact (below_size (by repeat (first | (with_reducible first | exact HB.out | apply hA | apply hN | apply hD | refine below_set ?_ GE390.out) | exact HB.out))) : w.heap.size ≤ gb391)); have n4_ := aK ((by rw [hg]; exact (below_size (by repeat (first | (with_reducible first | exact HB.out | apply hA | apply hN | apply hD | refine below_set ?_ GE390.out) | exact HB.out))) : w.heap.size ≤ gb391)); have n5_ := aK ((by rw [hg]; exact Nat.ne_of_lt (blk_lt (g := gb390) (o := .cells #[.int .i64 a0_0, .int .i64 a0_1] 25 (0, 0)) (by (with_reducible repeat (first | refine bR ?_ | refine bA ?_ _)); exact BK390.out)) : gb390 ≠ gb391)); have n6_ := aK ((by rw [hg]; exact Nat.ne_of_gt (blk_lt (g := gb390) (o := .cells #[.int .i64 a0_0, .int .i64 a0_1] 25 (0, 0)) (by (with_reducible repeat (first | refine bR ?_ | refine bA ?_ _)); exact BK390.out)) : gb391 ≠ gb390)); clear BK390; clear HB; have BK390 := n0_; have HB := n1_; have BK391 := n2_; have GW391 := n3_; have GE391 := n4_; have NB390_391 := n5_; have NB391_390 := n6_; clear n0_ n1_ n2_ n3_ n4_ n5_ n6_; clear hb hbox hg))
         have n0_ := aK (blk_drew BK390.out)
         have n1_ := aK (blk_drew BK391.out)
         have n2_ := aK (below_drew1 HB.out)
         clear BK390
         clear BK391
         clear HB
         have BK390 := n0_
         have BK391 := n1_
         have HB := n2_
         clear n0_ n1_ n2_
         refine start_ (n := 6) (S := fun w' => w'.cell? ⟨gb390, 0, none⟩ = some (.int .i64 a0_0) ∧ w'.cell? ⟨gb390, 1, none⟩ = some (.int .i64 a0_1) ∧ w'.cell? ⟨gb391, 0, none⟩ = some (.int .i64 a1_0) ∧ w'.cell? ⟨gb391, 1, none⟩ = some (.int .i64 a1_1)) (ds := [4, 5]) #[Z,Z,Z,Z,Z,Z] (by kernel_rfl) rfl rfl ⟨(blk_cell BK390.out 0).trans rfl, (blk_cell BK390.out 1).trans rfl, (blk_cell BK391.out 0).trans rfl, (blk_cell BK391.out 1).trans rfl⟩ (fun hHeld => ?_)
         generalize w55.drew = w56 at BK390 BK391 HB hHeld ⊢
         refine take_ (i := 0) (N := some 5) (v := ?_) (a' := ?_) #[Y,Z,Z,Z,Z,Z] rfl rfl (by kernel_rfl) (fun _ _ _ h => h) (Or.inl ⟨by rfl, ?_⟩) hHeld ?_ ?_
         rotate_left
         · rintro w' ⟨s0, s1, s2, s3⟩
           go_simp
           with_reducible rfl
         rotate_left
         · simp only [Act.put, sA, sB, sC, i64_w, i32_w]
           rfl
         refine take_ (i := 2) (N := some 7) (v := ?_) (a' := ?_) #[Y,Z,Y,Z,Z,Z] rfl rfl (by kernel_rfl) (fun _ _ _ h => h) (Or.inl ⟨by rfl, ?_⟩) hHeld ?_ ?_
         rotate_left
         · rintro w' ⟨s0, s1, s2, s3⟩
           go_simp
           with_reducible rfl
         rotate_left
         · simp only [Act.put, sA, sB, sC, i64_w, i32_w]
           rfl
         refine one_ (i := 1) (N := some 6) #[Y,Y,Y,Z,Z,Z] rfl rfl (by kernel_rfl) (by decide) (fun K hK => ?_)
         refine goes_ Tryd.func42 (by kernel_rfl) rfl #[.agg #[.int .i64 a0_0, .int .i64 a0_1]] (by rfl) rfl rfl (by (try simp only [mA, mB, mC]); first | done | rfl) ?_
         with_reducible refine (timeboundref08_Form.calls k a0_0 a0_1 t392 t393 _ A3.out).mono ?_
         rintro e w57 ⟨rfl, hb⟩
         refine ⟨_, rfl, ?_⟩
         have n0_ := aK (blk_below (g := gb390) (o := .cells #[.int .i64 a0_0, .int .i64 a0_1] 25 (0, 0)) (by (with_reducible repeat (first | refine bR ?_ | refine bA ?_ _)); exact BK390.out) hb)
         have n1_ := aK (blk_below (g := gb391) (o := .cells #[.int .i64 a1_0, .int .i64 a1_1] 25 (0, 0)) (by (with_reducible repeat (first | refine bR ?_ | refine bA ?_ _)); exact BK391.out) hb)
         have n2_ := aK (below_step (by repeat (first | (with_reducible first | exact HB.out | apply hA | apply hN | apply hD | refine below_set ?_ GE390.out | refine below_set ?_ GE391.out) | exact HB.out)) hb)
         clear BK390
         clear BK391
         clear HB
         have BK390 := n0_
         have BK391 := n1_
         have HB := n2_
         clear n0_ n1_ n2_
         (try clear hb)
         (try clear hb2)
         (try clear hk)
         (try clear hi)
         refine hK.out _ _ ⟨(blk_cell BK390.out 0).trans rfl, (blk_cell BK390.out 1).trans rfl, (blk_cell BK391.out 0).trans rfl, (blk_cell BK391.out 1).trans rfl⟩ (fun hHeld => ?_)
         clear hK K
         refine norm_ (a' := ?_) ?_ ?_
         rotate_left
         · show Act.put _ (some 6) _ = _
           simp only [Act.put, sA, sB, sC, i64_w, i32_w]
           rfl
         refine one_ (i := 3) (N := some 8) #[Y,Y,Y,Y,Z,Z] rfl rfl (by kernel_rfl) (by decide) (fun K hK => ?_)
         refine goes_ Tryd.func42 (by kernel_rfl) rfl #[.agg #[.int .i64 a1_0, .int .i64 a1_1]] (by rfl) rfl rfl (by (try simp only [mA, mB, mC]); first | done | rfl) ?_
         with_reducible refine (timeboundref08_Form.calls k a1_0 a1_1 t394 t395 _ A4.out).mono ?_
         rintro e w58 ⟨rfl, hb⟩
         refine ⟨_, rfl, ?_⟩
         have n0_ := aK (blk_below (g := gb390) (o := .cells #[.int .i64 a0_0, .int .i64 a0_1] 25 (0, 0)) (by (with_reducible repeat (first | refine bR ?_ | refine bA ?_ _)); exact BK390.out) hb)
         have n1_ := aK (blk_below (g := gb391) (o := .cells #[.int .i64 a1_0, .int .i64 a1_1] 25 (0, 0)) (by (with_reducible repeat (first | refine bR ?_ | refine bA ?_ _)); exact BK391.out) hb)
         have n2_ := aK (below_step (by repeat (first | (with_reducible first | exact HB.out | apply hA | apply hN | apply hD | refine below_set ?_ GE390.out | refine below_set ?_ GE391.out) | exact HB.out)) hb)
         clear BK390
         clear BK391
         clear HB
         have BK390 := n0_
         have BK391 := n1_
         have HB := n2_
         clear n0_ n1_ n2_
         (try clear hb)
         (try clear hb2)
         (try clear hk)
         (try clear hi)
         refine hK.out _ _ ⟨(blk_cell BK390.out 0).trans rfl, (blk_cell BK390.out 1).trans rfl, (blk_cell BK391.out 0).trans rfl, (blk_cell BK391.out 1).trans rfl⟩ (fun hHeld => ?_)
         clear hK K
         refine norm_ (a' := ?_) ?_ ?_
         rotate_left
         · show Act.put _ (some 8) _ = _
           simp only [Act.put, sA, sB, sC, i64_w, i32_w]
           rfl
         refine last_ (i := 4) (N := none) #[Y,Y,Y,Y,Y,Z] rfl rfl (by kernel_rfl) (by decide) (fun K hK => ?_)
         have hs59 : w58.cell? ⟨gb390, 0, none⟩ = some (.int .i64 a0_0) := (blk_cell BK390.out 0).trans rfl
         have hfs59 := blk_frozen BK390.out 0
         have hns59_1 := NB391_390.out
         have hms59_1 := NB390_391.out
         have hs60 : w58.cell? ⟨gb390, 1, none⟩ = some (.int .i64 a0_1) := (blk_cell BK390.out 1).trans rfl
         have hfs60 := blk_frozen BK390.out 1
         have hns60_1 := NB391_390.out
         have hms60_1 := NB390_391.out
         refine skip_ (w1 := ?_) (by rfl) rfl ?_ ?_
         rotate_left
         · go_simp
           rfl
         refine hK.out _ _ ?_
         clear hK K
         refine last_ (i := 5) (N := none) #[Y,Y,Y,Y,Y,Y] rfl rfl (by kernel_rfl) (by decide) (fun K hK => ?_)
         have hs61 : w58.cell? ⟨gb391, 0, none⟩ = some (.int .i64 a1_0) := (blk_cell BK391.out 0).trans rfl
         have hfs61 := blk_frozen BK391.out 0
         have hns61_0 := NB390_391.out
         have hms61_0 := NB391_390.out
         have hs62 : w58.cell? ⟨gb391, 1, none⟩ = some (.int .i64 a1_1) := (blk_cell BK391.out 1).trans rfl
         have hfs62 := blk_frozen BK391.out 1
         have hns62_0 := NB390_391.out
         have hms62_0 := NB391_390.out
         refine skip_ (w1 := ?_) (by rfl) rfl ?_ ?_
         rotate_left
         · go_simp
           rfl
         refine hK.out _ _ ?_
         clear hK K
         refine done_ (by kernel_rfl) ?_
         try go_wp2
         have n0_ : Aside0 (((((w58.setCell ⟨gb390, 0, none⟩ (.int .i64 t392)).setCell ⟨gb390, 1, none⟩ (.int .i64 t393)).setCell ⟨gb391, 0, none⟩ (.int .i64 t394)).setCell ⟨gb391, 1, none⟩ (.int .i64 t395)).heap[gb390]? = some (.cells #[.int .i64 t392, .int .i64 t393] 25 (0, 0))) := ⟨by (with_reducible repeat (first | refine bR ?_ | refine bA ?_ _)); refine blk_far ?_ NB390_391.out _; (with_reducible repeat (first | refine bR ?_ | refine bA ?_ _)); refine blk_far ?_ NB390_391.out _; (with_reducible repeat (first | refine bR ?_ | refine bA ?_ _)); refine blk_put (cs := #[.int .i64 t392, .int .i64 a0_1]) ?_ 1 _ rfl; (with_reducible repeat (first | refine bR ?_ | refine bA ?_ _)); refine blk_put (cs := #[.int .i64 a0_0, .int .i64 a0_1]) ?_ 0 _ rfl; (with_reducible repeat (first | refine bR ?_ | refine bA ?_ _)); exact BK390.out⟩
         have n1_ : Aside0 (((((w58.setCell ⟨gb390, 0, none⟩ (.int .i64 t392)).setCell ⟨gb390, 1, none⟩ (.int .i64 t393)).setCell ⟨gb391, 0, none⟩ (.int .i64 t394)).setCell ⟨gb391, 1, none⟩ (.int .i64 t395)).heap[gb391]? = some (.cells #[.int .i64 t394, .int .i64 t395] 25 (0, 0))) := ⟨by (with_reducible repeat (first | refine bR ?_ | refine bA ?_ _)); refine blk_put (cs := #[.int .i64 t394, .int .i64 a1_1]) ?_ 1 _ rfl; (with_reducible repeat (first | refine bR ?_ | refine bA ?_ _)); refine blk_put (cs := #[.int .i64 a1_0, .int .i64 a1_1]) ?_ 0 _ rfl; (with_reducible repeat (first | refine bR ?_ | refine bA ?_ _)); refine blk_far ?_ NB391_390.out _; (with_reducible repeat (first | refine bR ?_ | refine bA ?_ _)); refine blk_far ?_ NB391_390.out _; (with_reducible repeat (first | refine bR ?_ | refine bA ?_ _)); exact BK391.out⟩
         have n2_ : Aside0 (Below w.heap.size w ((((w58.setCell ⟨gb390, 0, none⟩ (.int .i64 t392)).setCell ⟨gb390, 1, none⟩ (.int .i64 t393)).setCell ⟨gb391, 0, none⟩ (.int .i64 t394)).setCell ⟨gb391, 1, none⟩ (.int .i64 t395))) := ⟨by repeat (first | (with_reducible first | exact HB.out | apply hA | apply hN | apply hD | refine below_set ?_ GE390.out | refine below_set ?_ GE391.out) | exact HB.out)⟩
         (try clear BK390)
         (try clear BK391)
         (try clear HB)
         generalize ((((w58.setCell ⟨gb390, 0, none⟩ (.int .i64 t392)).setCell ⟨gb390, 1, none⟩ (.int .i64 t393)).setCell ⟨gb391, 0, none⟩ (.int .i64 t394)).setCell ⟨gb391, 1, none⟩ (.int .i64 t395)) = w63 at n0_ n1_ n2_ ⊢
         have BK390 := n0_
         have BK391 := n1_
         have HB := n2_
         clear n0_ n1_ n2_
         have n0_ := aK (blk_drew BK390.out)
         have n1_ := aK (blk_drew BK391.out)
         have n2_ := aK (below_drew1 HB.out)
         clear BK390
         clear BK391
         clear HB
         have BK390 := n0_
         have BK391 := n1_
         have HB := n2_
         clear n0_ n1_ n2_
         refine start_ (n := 4) (S := fun w' => w'.cell? ⟨gb390, 0, none⟩ = some (.int .i64 t392) ∧ w'.cell? ⟨gb390, 1, none⟩ = some (.int .i64 t393)) (ds := []) #[Z,Z,Z,Z] (by kernel_rfl) rfl rfl ⟨(blk_cell BK390.out 0).trans rfl, (blk_cell BK390.out 1).trans rfl⟩ (fun hHeld => ?_)
         generalize w63.drew = w64 at BK390 BK391 HB hHeld ⊢
         refine take_ (i := 0) (N := some 10) (v := ?_) (a' := ?_) #[Y,Z,Z,Z] rfl rfl (by kernel_rfl) (fun _ _ _ h => h) (Or.inl ⟨by rfl, ?_⟩) hHeld ?_ ?_
         rotate_left
         · rintro w' ⟨s0, s1⟩
           go_simp
           with_reducible rfl
         rotate_left
         · simp only [Act.put, sA, sB, sC, i64_w, i32_w]
           rfl
         refine one_ (i := 1) (N := some 11) #[Y,Y,Z,Z] rfl rfl (by kernel_rfl) (by decide) (fun K hK => ?_)
         refine goes_ Tryd.func21 (by kernel_rfl) rfl #[] (by rfl) rfl rfl (by (try simp only [mA, mB, mC]); first | done | rfl) ?_
         with_reducible refine (timeboundref08_None.calls  t396 t397 _ A5.out).mono ?_
         rintro e w65 ⟨rfl, hb⟩
         refine ⟨_, rfl, ?_⟩
         have n0_ := aK (blk_below (g := gb390) (o := .cells #[.int .i64 t392, .int .i64 t393] 25 (0, 0)) (by (with_reducible repeat (first | refine bR ?_ | refine bA ?_ _)); exact BK390.out) hb)
         have n1_ := aK (blk_below (g := gb391) (o := .cells #[.int .i64 t394, .int .i64 t395] 25 (0, 0)) (by (with_reducible repeat (first | refine bR ?_ | refine bA ?_ _)); exact BK391.out) hb)
         have n2_ := aK (below_step (by repeat (first | (with_reducible first | exact HB.out | apply hA | apply hN | apply hD | refine below_set ?_ GE390.out | refine below_set ?_ GE391.out) | exact HB.out)) hb)
         clear BK390
         clear BK391
         clear HB
         have BK390 := n0_
         have BK391 := n1_
         have HB := n2_
         clear n0_ n1_ n2_
         (try clear hb)
         (try clear hb2)
         (try clear hk)
         (try clear hi)
         refine hK.out _ _ ⟨(blk_cell BK390.out 0).trans rfl, (blk_cell BK390.out 1).trans rfl⟩ (fun hHeld => ?_)
         clear hK K
         refine norm_ (a' := ?_) ?_ ?_
         rotate_left
         · show Act.put _ (some 11) _ = _
           simp only [Act.put, sA, sB, sC, i64_w, i32_w]
           rfl
         refine pure_ (i := 2) (N := some 12) (v := ?_) (a' := ?_) #[Y,Y,Y,Z] rfl rfl (by kernel_rfl) (fun _ _ _ h => h) (Or.inl ⟨by rfl, ?_⟩) ?_ ?_
         rotate_left
         · intro w'
           go_simp
           with_reducible rfl
         rotate_left
         · simp only [Act.put, sA, sB, sC, i64_w, i32_w]
           rfl
         refine pure_ (i := 3) (N := some 9) (v := ?_) (a' := ?_) #[Y,Y,Y,Y] rfl rfl (by kernel_rfl) (fun _ _ _ h => h) (Or.inl ⟨by rfl, ?_⟩) ?_ ?_
         rotate_left
         · intro w'
           go_simp
           with_reducible rfl
         rotate_left
         · simp only [Act.put, sA, sB, sC, i64_w, i32_w]
           rfl
         refine done_ (by kernel_rfl) ?_
         try go_wp2
         have n0_ := aK (blk_drew BK390.out)
         have n1_ := aK (blk_drew BK391.out)
         have n2_ := aK (below_drew1 HB.out)
         clear BK390
         clear BK391
         clear HB
         have BK390 := n0_
         have BK391 := n1_
         have HB := n2_
         clear n0_ n1_ n2_
         refine start_ (n := 4) (S := fun w' => w'.cell? ⟨gb391, 0, none⟩ = some (.int .i64 t394) ∧ w'.cell? ⟨gb391, 1, none⟩ = some (.int .i64 t395)) (ds := []) #[Z,Z,Z,Z] (by kernel_rfl) rfl rfl ⟨(blk_cell BK391.out 0).trans rfl, (blk_cell BK391.out 1).trans rfl⟩ (fun hHeld => ?_)
         generalize w65.drew = w66 at BK390 BK391 HB hHeld ⊢
         refine take_ (i := 0) (N := some 14) (v := ?_) (a' := ?_) #[Y,Z,Z,Z] rfl rfl (by kernel_rfl) (fun _ _ _ h => h) (Or.inl ⟨by rfl, ?_⟩) hHeld ?_ ?_
         rotate_left
         · rintro w' ⟨s0, s1⟩
           go_simp
           with_reducible rfl
         rotate_left
         · simp only [Act.put, sA, sB, sC, i64_w, i32_w]
           rfl
         refine one_ (i := 1) (N := some 15) #[Y,Y,Z,Z] rfl rfl (by kernel_rfl) (by decide) (fun K hK => ?_)
         refine goes_ Tryd.func21 (by kernel_rfl) rfl #[] (by rfl) rfl rfl (by (try simp only [mA, mB, mC]); first | done | rfl) ?_
         with_reducible refine (timeboundref08_None.calls  t398 t399 _ A19.out).mono ?_
         rintro e w67 ⟨rfl, hb⟩
         refine ⟨_, rfl, ?_⟩
         have n0_ := aK (blk_below (g := gb390) (o := .cells #[.int .i64 t392, .int .i64 t393] 25 (0, 0)) (by (with_reducible repeat (first | refine bR ?_ | refine bA ?_ _)); exact BK390.out) hb)
         have n1_ := aK (blk_below (g := gb391) (o := .cells #[.int .i64 t394, .int .i64 t395] 25 (0, 0)) (by (with_reducible repeat (first | refine bR ?_ | refine bA ?_ _)); exact BK391.out) hb)
         have n2_ := aK (below_step (by repeat (first | (with_reducible first | exact HB.out | apply hA | apply hN | apply hD | refine below_set ?_ GE390.out | refine below_set ?_ GE391.out) | exact HB.out)) hb)
         clear BK390
         clear BK391
         clear HB
         have BK390 := n0_
         have BK391 := n1_
         have HB := n2_
         clear n0_ n1_ n2_
         (try clear hb)
         (try clear hb2)
         (try clear hk)
         (try clear hi)
         refine hK.out _ _ ⟨(blk_cell BK391.out 0).trans rfl, (blk_cell BK391.out 1).trans rfl⟩ (fun hHeld => ?_)
         clear hK K
         refine norm_ (a' := ?_) ?_ ?_
         rotate_left
         · show Act.put _ (some 15) _ = _
           simp only [Act.put, sA, sB, sC, i64_w, i32_w]
           rfl
         refine pure_ (i := 2) (N := some 16) (v := ?_) (a' := ?_) #[Y,Y,Y,Z] rfl rfl (by kernel_rfl) (fun _ _ _ h => h) (Or.inl ⟨by rfl, ?_⟩) ?_ ?_
         rotate_left
         · intro w'
           go_simp
           with_reducible rfl
         rotate_left
         · simp only [Act.put, sA, sB, sC, i64_w, i32_w]
           rfl
         refine pure_ (i := 3) (N := some 13) (v := ?_) (a' := ?_) #[Y,Y,Y,Y] rfl rfl (by kernel_rfl) (fun _ _ _ h => h) (Or.inl ⟨by rfl, ?_⟩) ?_ ?_
         rotate_left
         · intro w'
           go_simp
           with_reducible rfl
         rotate_left
         · simp only [Act.put, sA, sB, sC, i64_w, i32_w]
           rfl
         refine done_ (by kernel_rfl) ?_
         have hnb68 := NB391_390.out
         have hnc68 := NB390_391.out
         have hcz69_0 : w67.cell? ⟨gb391, 0, none⟩ = some (.int .i64 t394) := (blk_cell BK391.out 0).trans rfl
         have hcz69_1 : w67.cell? ⟨gb391, 1, none⟩ = some (.int .i64 t395) := (blk_cell BK391.out 1).trans rfl
         have hfz69_0 := blk_frozen BK391.out 0
         have hfz69_1 := blk_frozen BK391.out 1
         have hcz70_0 : w67.cell? ⟨gb390, 0, none⟩ = some (.int .i64 t392) := (blk_cell BK390.out 0).trans rfl
         have hcz70_1 : w67.cell? ⟨gb390, 1, none⟩ = some (.int .i64 t393) := (blk_cell BK390.out 1).trans rfl
         have hfz70_0 := blk_frozen BK390.out 0
         have hfz70_1 := blk_frozen BK390.out 1
         try go_wp2
         go_ret
         exact ⟨by first | rfl | (simp [errW_none, errW_some] <;> rfl) | (simp [*, errW_none, errW_some] <;> rfl), by repeat (first | (with_reducible first | exact HB.out | apply hA | apply hN | apply hD | refine below_set ?_ GE390.out | refine below_set ?_ GE391.out) | exact HB.out)⟩
       · rw [if_neg c53] at H
         have c53b0 : (t392 == 0) = false := beq_eq_false_iff_ne.mpr c53
         have c53b1 : (t392 != 0) = true := bne_iff_ne.mpr c53
         by_cases c71 : t392 ≥ t394
         · rw [if_pos c71] at H
           have c71b0 : decide (t394 ≤ t392) = true := decide_eq_true c71
           clear c71
           obtain rfl := Option.some.inj H
           go_enter Tryd.func35, Tryd.ntmps35
           try go_wp2_with (first | ((with_reducible refine gate_dst (N := 2) rfl ?_); refine box_event ?hg (N := 2) ?hd (cs := #[.int .i64 a0_0, .int .i64 a0_1]) (t := 25) ?hr ?_; (case hd => rfl); (case hg => rfl); (case hr => first | (go_simp; done) | (go_simp; rfl)); intro gb390 hg w72 hbox hb; have n0_ := aK (below_step (by repeat (first | (with_reducible first | exact HB.out | apply hA | apply hN | apply hD) | exact HB.out)) hb); have n1_ := aK (hbox); have n2_ := aK ((by rw [hg]; exact (below_size (by repeat (first | (with_reducible first | exact HB.out | apply hA | apply hN | apply hD) | exact HB.out))) : w.heap.size ≤ gb390)); have n3_ := aK ((by rw [hg]; exact (below_size (by repeat (first | (with_reducible first | exact HB.out | apply hA | apply hN | apply hD) | exact HB.out))) : w.heap.size ≤ gb390)); clear HB; have HB := n0_; have BK390 := n1_; have GW390 := n2_; have GE390 := n3_; clear n0_ n1_ n2_ n3_; clear hb hbox hg) | ((with_reducible refine gate_dst (N := 3) rfl ?_); refine box_event ?hg (N := 3) ?hd (cs := #[.int .i64 a1_0, .int .i64 a1_1]) (t := 25) ?hr ?_; (case hd => rfl); (case hg => rfl); (case hr => first | (go_simp; done) | (go_simp; rfl)); intro gb391 hg w73 hbox hb; have n0_ := aK (blk_below (g := gb390) (o := .cells #[.int .i64 a0_0, .int .i64 a0_1] 25 (0, 0)) (by (with_reducible repeat (first | refine bR ?_ | refine bA ?_ _)); exact BK390.out) hb); have n1_ := aK (below_step (by repeat (first | (with_reducible first | exact HB.out | apply hA | apply hN | apply hD | refine below_set ?_ GE390.out) | exact HB.out)) hb); have n2_ := aK (hbox); have n3_ := aK ((by rw [hg]; exact (below_size (by repeat (first | (with_reducible first | exact HB.out | apply hA | apply hN | apply hD | refine below_set ?_ GE390.out) | exact HB.out))) : w.heap.size ≤ gb391)); have n4_ := aK ((by rw [hg]; exact (below_size (by repeat (first | (with_reducible first | exact HB.out | apply hA | apply hN | apply hD | refine below_set ?_ GE390.out) | exact HB.out))) : w.heap.size ≤ gb391)); have n5_ := aK ((by rw [hg]; exact Nat.ne_of_lt (blk_lt (g := gb390) (o := .cells #[.int .i64 a0_0, .int .i64 a0_1] 25 (0, 0)) (by (with_reducible repeat (first | refine bR ?_ | refine bA ?_ _)); exact BK390.out)) : gb390 ≠ gb391)); have n6_ := aK ((by rw [hg]; exact Nat.ne_of_gt (blk_lt (g := gb390) (o := .cells #[.int .i64 a0_0, .int .i64 a0_1] 25 (0, 0)) (by (with_reducible repeat (first | refine bR ?_ | refine bA ?_ _)); exact BK390.out)) : gb391 ≠ gb390)); clear BK390; clear HB; have BK390 := n0_; have HB := n1_; have BK391 := n2_; have GW391 := n3_; have GE391 := n4_; have NB390_391 := n5_; have NB391_390 := n6_; clear n0_ n1_ n2_ n3_ n4_ n5_ n6_; clear hb hbox hg))
           have n0_ := aK (blk_drew BK390.out)
           have n1_ := aK (blk_drew BK391.out)
           have n2_ := aK (below_drew1 HB.out)
           clear BK390
           clear BK391
           clear HB
           have BK390 := n0_
           have BK391 := n1_
           have HB := n2_
           clear n0_ n1_ n2_
           refine start_ (n := 6) (S := fun w' => w'.cell? ⟨gb390, 0, none⟩ = some (.int .i64 a0_0) ∧ w'.cell? ⟨gb390, 1, none⟩ = some (.int .i64 a0_1) ∧ w'.cell? ⟨gb391, 0, none⟩ = some (.int .i64 a1_0) ∧ w'.cell? ⟨gb391, 1, none⟩ = some (.int .i64 a1_1)) (ds := [4, 5]) #[Z,Z,Z,Z,Z,Z] (by kernel_rfl) rfl rfl ⟨(blk_cell BK390.out 0).trans rfl, (blk_cell BK390.out 1).trans rfl, (blk_cell BK391.out 0).trans rfl, (blk_cell BK391.out 1).trans rfl⟩ (fun hHeld => ?_)
           generalize w73.drew = w74 at BK390 BK391 HB hHeld ⊢
           refine take_ (i := 0) (N := some 5) (v := ?_) (a' := ?_) #[Y,Z,Z,Z,Z,Z] rfl rfl (by kernel_rfl) (fun _ _ _ h => h) (Or.inl ⟨by rfl, ?_⟩) hHeld ?_ ?_
           rotate_left
           · rintro w' ⟨s0, s1, s2, s3⟩
             go_simp
             with_reducible rfl
           rotate_left
           · simp only [Act.put, sA, sB, sC, i64_w, i32_w]
             rfl
           refine take_ (i := 2) (N := some 7) (v := ?_) (a' := ?_) #[Y,Z,Y,Z,Z,Z] rfl rfl (by kernel_rfl) (fun _ _ _ h => h) (Or.inl ⟨by rfl, ?_⟩) hHeld ?_ ?_
           rotate_left
           · rintro w' ⟨s0, s1, s2, s3⟩
             go_simp
             with_reducible rfl
           rotate_left
           · simp only [Act.put, sA, sB, sC, i64_w, i32_w]
             rfl
           refine one_ (i := 1) (N := some 6) #[Y,Y,Y,Z,Z,Z] rfl rfl (by kernel_rfl) (by decide) (fun K hK => ?_)
           refine goes_ Tryd.func42 (by kernel_rfl) rfl #[.agg #[.int .i64 a0_0, .int .i64 a0_1]] (by rfl) rfl rfl (by (try simp only [mA, mB, mC]); first | done | rfl) ?_
           with_reducible refine (timeboundref08_Form.calls k a0_0 a0_1 t392 t393 _ A3.out).mono ?_
           rintro e w75 ⟨rfl, hb⟩
           refine ⟨_, rfl, ?_⟩
           have n0_ := aK (blk_below (g := gb390) (o := .cells #[.int .i64 a0_0, .int .i64 a0_1] 25 (0, 0)) (by (with_reducible repeat (first | refine bR ?_ | refine bA ?_ _)); exact BK390.out) hb)
           have n1_ := aK (blk_below (g := gb391) (o := .cells #[.int .i64 a1_0, .int .i64 a1_1] 25 (0, 0)) (by (with_reducible repeat (first | refine bR ?_ | refine bA ?_ _)); exact BK391.out) hb)
           have n2_ := aK (below_step (by repeat (first | (with_reducible first | exact HB.out | apply hA | apply hN | apply hD | refine below_set ?_ GE390.out | refine below_set ?_ GE391.out) | exact HB.out)) hb)
           clear BK390
           clear BK391
           clear HB
           have BK390 := n0_
           have BK391 := n1_
           have HB := n2_
           clear n0_ n1_ n2_
           (try clear hb)
           (try clear hb2)
           (try clear hk)
           (try clear hi)
           refine hK.out _ _ ⟨(blk_cell BK390.out 0).trans rfl, (blk_cell BK390.out 1).trans rfl, (blk_cell BK391.out 0).trans rfl, (blk_cell BK391.out 1).trans rfl⟩ (fun hHeld => ?_)
           clear hK K
           refine norm_ (a' := ?_) ?_ ?_
           rotate_left
           · show Act.put _ (some 6) _ = _
             simp only [Act.put, sA, sB, sC, i64_w, i32_w]
             rfl
           refine one_ (i := 3) (N := some 8) #[Y,Y,Y,Y,Z,Z] rfl rfl (by kernel_rfl) (by decide) (fun K hK => ?_)
           refine goes_ Tryd.func42 (by kernel_rfl) rfl #[.agg #[.int .i64 a1_0, .int .i64 a1_1]] (by rfl) rfl rfl (by (try simp only [mA, mB, mC]); first | done | rfl) ?_
           with_reducible refine (timeboundref08_Form.calls k a1_0 a1_1 t394 t395 _ A4.out).mono ?_
           rintro e w76 ⟨rfl, hb⟩
           refine ⟨_, rfl, ?_⟩
           have n0_ := aK (blk_below (g := gb390) (o := .cells #[.int .i64 a0_0, .int .i64 a0_1] 25 (0, 0)) (by (with_reducible repeat (first | refine bR ?_ | refine bA ?_ _)); exact BK390.out) hb)
           have n1_ := aK (blk_below (g := gb391) (o := .cells #[.int .i64 a1_0, .int .i64 a1_1] 25 (0, 0)) (by (with_reducible repeat (first | refine bR ?_ | refine bA ?_ _)); exact BK391.out) hb)
           have n2_ := aK (below_step (by repeat (first | (with_reducible first | exact HB.out | apply hA | apply hN | apply hD | refine below_set ?_ GE390.out | refine below_set ?_ GE391.out) | exact HB.out)) hb)
           clear BK390
           clear BK391
           clear HB
           have BK390 := n0_
           have BK391 := n1_
           have HB := n2_
           clear n0_ n1_ n2_
           (try clear hb)
           (try clear hb2)
           (try clear hk)
           (try clear hi)
           refine hK.out _ _ ⟨(blk_cell BK390.out 0).trans rfl, (blk_cell BK390.out 1).trans rfl, (blk_cell BK391.out 0).trans rfl, (blk_cell BK391.out 1).trans rfl⟩ (fun hHeld => ?_)
           clear hK K
           refine norm_ (a' := ?_) ?_ ?_
           rotate_left
           · show Act.put _ (some 8) _ = _
             simp only [Act.put, sA, sB, sC, i64_w, i32_w]
             rfl
           refine last_ (i := 4) (N := none) #[Y,Y,Y,Y,Y,Z] rfl rfl (by kernel_rfl) (by decide) (fun K hK => ?_)
           have hs77 : w76.cell? ⟨gb390, 0, none⟩ = some (.int .i64 a0_0) := (blk_cell BK390.out 0).trans rfl
           have hfs77 := blk_frozen BK390.out 0
           have hns77_1 := NB391_390.out
           have hms77_1 := NB390_391.out
           have hs78 : w76.cell? ⟨gb390, 1, none⟩ = some (.int .i64 a0_1) := (blk_cell BK390.out 1).trans rfl
           have hfs78 := blk_frozen BK390.out 1
           have hns78_1 := NB391_390.out
           have hms78_1 := NB390_391.out
           refine skip_ (w1 := ?_) (by rfl) rfl ?_ ?_
           rotate_left
           · go_simp
             rfl
           refine hK.out _ _ ?_
           clear hK K
           refine last_ (i := 5) (N := none) #[Y,Y,Y,Y,Y,Y] rfl rfl (by kernel_rfl) (by decide) (fun K hK => ?_)
           have hs79 : w76.cell? ⟨gb391, 0, none⟩ = some (.int .i64 a1_0) := (blk_cell BK391.out 0).trans rfl
           have hfs79 := blk_frozen BK391.out 0
           have hns79_0 := NB390_391.out
           have hms79_0 := NB391_390.out
           have hs80 : w76.cell? ⟨gb391, 1, none⟩ = some (.int .i64 a1_1) := (blk_cell BK391.out 1).trans rfl
           have hfs80 := blk_frozen BK391.out 1
           have hns80_0 := NB390_391.out
           have hms80_0 := NB391_390.out
           refine skip_ (w1 := ?_) (by rfl) rfl ?_ ?_
           rotate_left
           · go_simp
             rfl
           refine hK.out _ _ ?_
           clear hK K
           refine done_ (by kernel_rfl) ?_
           try go_wp2
           have n0_ : Aside0 (((((w76.setCell ⟨gb390, 0, none⟩ (.int .i64 t392)).setCell ⟨gb390, 1, none⟩ (.int .i64 t393)).setCell ⟨gb391, 0, none⟩ (.int .i64 t394)).setCell ⟨gb391, 1, none⟩ (.int .i64 t395)).heap[gb390]? = some (.cells #[.int .i64 t392, .int .i64 t393] 25 (0, 0))) := ⟨by (with_reducible repeat (first | refine bR ?_ | refine bA ?_ _)); refine blk_far ?_ NB390_391.out _; (with_reducible repeat (first | refine bR ?_ | refine bA ?_ _)); refine blk_far ?_ NB390_391.out _; (with_reducible repeat (first | refine bR ?_ | refine bA ?_ _)); refine blk_put (cs := #[.int .i64 t392, .int .i64 a0_1]) ?_ 1 _ rfl; (with_reducible repeat (first | refine bR ?_ | refine bA ?_ _)); refine blk_put (cs := #[.int .i64 a0_0, .int .i64 a0_1]) ?_ 0 _ rfl; (with_reducible repeat (first | refine bR ?_ | refine bA ?_ _)); exact BK390.out⟩
           have n1_ : Aside0 (((((w76.setCell ⟨gb390, 0, none⟩ (.int .i64 t392)).setCell ⟨gb390, 1, none⟩ (.int .i64 t393)).setCell ⟨gb391, 0, none⟩ (.int .i64 t394)).setCell ⟨gb391, 1, none⟩ (.int .i64 t395)).heap[gb391]? = some (.cells #[.int .i64 t394, .int .i64 t395] 25 (0, 0))) := ⟨by (with_reducible repeat (first | refine bR ?_ | refine bA ?_ _)); refine blk_put (cs := #[.int .i64 t394, .int .i64 a1_1]) ?_ 1 _ rfl; (with_reducible repeat (first | refine bR ?_ | refine bA ?_ _)); refine blk_put (cs := #[.int .i64 a1_0, .int .i64 a1_1]) ?_ 0 _ rfl; (with_reducible repeat (first | refine bR ?_ | refine bA ?_ _)); refine blk_far ?_ NB391_390.out _; (with_reducible repeat (first | refine bR ?_ | refine bA ?_ _)); refine blk_far ?_ NB391_390.out _; (with_reducible repeat (first | refine bR ?_ | refine bA ?_ _)); exact BK391.out⟩
           have n2_ : Aside0 (Below w.heap.size w ((((w76.setCell ⟨gb390, 0, none⟩ (.int .i64 t392)).setCell ⟨gb390, 1, none⟩ (.int .i64 t393)).setCell ⟨gb391, 0, none⟩ (.int .i64 t394)).setCell ⟨gb391, 1, none⟩ (.int .i64 t395))) := ⟨by repeat (first | (with_reducible first | exact HB.out | apply hA | apply hN | apply hD | refine below_set ?_ GE390.out | refine below_set ?_ GE391.out) | exact HB.out)⟩
           (try clear BK390)
           (try clear BK391)
           (try clear HB)
           generalize ((((w76.setCell ⟨gb390, 0, none⟩ (.int .i64 t392)).setCell ⟨gb390, 1, none⟩ (.int .i64 t393)).setCell ⟨gb391, 0, none⟩ (.int .i64 t394)).setCell ⟨gb391, 1, none⟩ (.int .i64 t395)) = w81 at n0_ n1_ n2_ ⊢
           have BK390 := n0_
           have BK391 := n1_
           have HB := n2_
           clear n0_ n1_ n2_
           have n0_ := aK (blk_drew BK390.out)
           have n1_ := aK (blk_drew BK391.out)
           have n2_ := aK (below_drew1 HB.out)
           clear BK390
           clear BK391
           clear HB
           have BK390 := n0_
           have BK391 := n1_
           have HB := n2_
           clear n0_ n1_ n2_
           refine start_ (n := 4) (S := fun w' => w'.cell? ⟨gb390, 0, none⟩ = some (.int .i64 t392) ∧ w'.cell? ⟨gb390, 1, none⟩ = some (.int .i64 t393)) (ds := []) #[Z,Z,Z,Z] (by kernel_rfl) rfl rfl ⟨(blk_cell BK390.out 0).trans rfl, (blk_cell BK390.out 1).trans rfl⟩ (fun hHeld => ?_)
           generalize w81.drew = w82 at BK390 BK391 HB hHeld ⊢
           refine take_ (i := 0) (N := some 10) (v := ?_) (a' := ?_) #[Y,Z,Z,Z] rfl rfl (by kernel_rfl) (fun _ _ _ h => h) (Or.inl ⟨by rfl, ?_⟩) hHeld ?_ ?_
           rotate_left
           · rintro w' ⟨s0, s1⟩
             go_simp
             with_reducible rfl
           rotate_left
           · simp only [Act.put, sA, sB, sC, i64_w, i32_w]
             rfl
           refine one_ (i := 1) (N := some 11) #[Y,Y,Z,Z] rfl rfl (by kernel_rfl) (by decide) (fun K hK => ?_)
           refine goes_ Tryd.func21 (by kernel_rfl) rfl #[] (by rfl) rfl rfl (by (try simp only [mA, mB, mC]); first | done | rfl) ?_
           with_reducible refine (timeboundref08_None.calls  t396 t397 _ A5.out).mono ?_
           rintro e w83 ⟨rfl, hb⟩
           refine ⟨_, rfl, ?_⟩
           have n0_ := aK (blk_below (g := gb390) (o := .cells #[.int .i64 t392, .int .i64 t393] 25 (0, 0)) (by (with_reducible repeat (first | refine bR ?_ | refine bA ?_ _)); exact BK390.out) hb)
           have n1_ := aK (blk_below (g := gb391) (o := .cells #[.int .i64 t394, .int .i64 t395] 25 (0, 0)) (by (with_reducible repeat (first | refine bR ?_ | refine bA ?_ _)); exact BK391.out) hb)
           have n2_ := aK (below_step (by repeat (first | (with_reducible first | exact HB.out | apply hA | apply hN | apply hD | refine below_set ?_ GE390.out | refine below_set ?_ GE391.out) | exact HB.out)) hb)
           clear BK390
           clear BK391
           clear HB
           have BK390 := n0_
           have BK391 := n1_
           have HB := n2_
           clear n0_ n1_ n2_
           (try clear hb)
           (try clear hb2)
           (try clear hk)
           (try clear hi)
           refine hK.out _ _ ⟨(blk_cell BK390.out 0).trans rfl, (blk_cell BK390.out 1).trans rfl⟩ (fun hHeld => ?_)
           clear hK K
           refine norm_ (a' := ?_) ?_ ?_
           rotate_left
           · show Act.put _ (some 11) _ = _
             simp only [Act.put, sA, sB, sC, i64_w, i32_w]
             rfl
           refine pure_ (i := 2) (N := some 12) (v := ?_) (a' := ?_) #[Y,Y,Y,Z] rfl rfl (by kernel_rfl) (fun _ _ _ h => h) (Or.inl ⟨by rfl, ?_⟩) ?_ ?_
           rotate_left
           · intro w'
             go_simp
             with_reducible rfl
           rotate_left
           · simp only [Act.put, sA, sB, sC, i64_w, i32_w]
             rfl
           refine pure_ (i := 3) (N := some 9) (v := ?_) (a' := ?_) #[Y,Y,Y,Y] rfl rfl (by kernel_rfl) (fun _ _ _ h => h) (Or.inl ⟨by rfl, ?_⟩) ?_ ?_
           rotate_left
           · intro w'
             go_simp
             with_reducible rfl
           rotate_left
           · simp only [Act.put, sA, sB, sC, i64_w, i32_w]
             rfl
           refine done_ (by kernel_rfl) ?_
           try go_wp2
           have n0_ := aK (blk_drew BK390.out)
           have n1_ := aK (blk_drew BK391.out)
           have n2_ := aK (below_drew1 HB.out)
           clear BK390
           clear BK391
           clear HB
           have BK390 := n0_
           have BK391 := n1_
           have HB := n2_
           clear n0_ n1_ n2_
           refine start_ (n := 4) (S := fun w' => w'.cell? ⟨gb391, 0, none⟩ = some (.int .i64 t394) ∧ w'.cell? ⟨gb391, 1, none⟩ = some (.int .i64 t395)) (ds := []) #[Z,Z,Z,Z] (by kernel_rfl) rfl rfl ⟨(blk_cell BK391.out 0).trans rfl, (blk_cell BK391.out 1).trans rfl⟩ (fun hHeld => ?_)
           generalize w83.drew = w84 at BK390 BK391 HB hHeld ⊢
           refine take_ (i := 0) (N := some 14) (v := ?_) (a' := ?_) #[Y,Z,Z,Z] rfl rfl (by kernel_rfl) (fun _ _ _ h => h) (Or.inl ⟨by rfl, ?_⟩) hHeld ?_ ?_
           rotate_left
           · rintro w' ⟨s0, s1⟩
             go_simp
             with_reducible rfl
           rotate_left
           · simp only [Act.put, sA, sB, sC, i64_w, i32_w]
             rfl
           refine one_ (i := 1) (N := some 15) #[Y,Y,Z,Z] rfl rfl (by kernel_rfl) (by decide) (fun K hK => ?_)
           refine goes_ Tryd.func21 (by kernel_rfl) rfl #[] (by rfl) rfl rfl (by (try simp only [mA, mB, mC]); first | done | rfl) ?_
           with_reducible refine (timeboundref08_None.calls  t398 t399 _ A19.out).mono ?_
           rintro e w85 ⟨rfl, hb⟩
           refine ⟨_, rfl, ?_⟩
           have n0_ := aK (blk_below (g := gb390) (o := .cells #[.int .i64 t392, .int .i64 t393] 25 (0, 0)) (by (with_reducible repeat (first | refine bR ?_ | refine bA ?_ _)); exact BK390.out) hb)
           have n1_ := aK (blk_below (g := gb391) (o := .cells #[.int .i64 t394, .int .i64 t395] 25 (0, 0)) (by (with_reducible repeat (first | refine bR ?_ | refine bA ?_ _)); exact BK391.out) hb)
           have n2_ := aK (below_step (by repeat (first | (with_reducible first | exact HB.out | apply hA | apply hN | apply hD | refine below_set ?_ GE390.out | refine below_set ?_ GE391.out) | exact HB.out)) hb)
           clear BK390
           clear BK391
           clear HB
           have BK390 := n0_
           have BK391 := n1_
           have HB := n2_
           clear n0_ n1_ n2_
           (try clear hb)
           (try clear hb2)
           (try clear hk)
           (try clear hi)
           refine hK.out _ _ ⟨(blk_cell BK391.out 0).trans rfl, (blk_cell BK391.out 1).trans rfl⟩ (fun hHeld => ?_)
           clear hK K
           refine norm_ (a' := ?_) ?_ ?_
           rotate_left
           · show Act.put _ (some 15) _ = _
             simp only [Act.put, sA, sB, sC, i64_w, i32_w]
             rfl
           refine pure_ (i := 2) (N := some 16) (v := ?_) (a' := ?_) #[Y,Y,Y,Z] rfl rfl (by kernel_rfl) (fun _ _ _ h => h) (Or.inl ⟨by rfl, ?_⟩) ?_ ?_
           rotate_left
           · intro w'
             go_simp
             with_reducible rfl
           rotate_left
           · simp only [Act.put, sA, sB, sC, i64_w, i32_w]
             rfl
           refine pure_ (i := 3) (N := some 13) (v := ?_) (a' := ?_) #[Y,Y,Y,Y] rfl rfl (by kernel_rfl) (fun _ _ _ h => h) (Or.inl ⟨by rfl, ?_⟩) ?_ ?_
           rotate_left
           · intro w'
             go_simp
             with_reducible rfl
           rotate_left
           · simp only [Act.put, sA, sB, sC, i64_w, i32_w]
             rfl
           refine done_ (by kernel_rfl) ?_
           have hnb86 := NB391_390.out
           have hnc86 := NB390_391.out
           have hcz87_0 : w85.cell? ⟨gb391, 0, none⟩ = some (.int .i64 t394) := (blk_cell BK391.out 0).trans rfl
           have hcz87_1 : w85.cell? ⟨gb391, 1, none⟩ = some (.int .i64 t395) := (blk_cell BK391.out 1).trans rfl
           have hfz87_0 := blk_frozen BK391.out 0
           have hfz87_1 := blk_frozen BK391.out 1
           have hcz88_0 : w85.cell? ⟨gb390, 0, none⟩ = some (.int .i64 t392) := (blk_cell BK390.out 0).trans rfl
           have hcz88_1 : w85.cell? ⟨gb390, 1, none⟩ = some (.int .i64 t393) := (blk_cell BK390.out 1).trans rfl
           have hfz88_0 := blk_frozen BK390.out 0
           have hfz88_1 := blk_frozen BK390.out 1
           try go_wp2
           go_ret
           exact ⟨by first | rfl | (simp [errW_none, errW_some] <;> rfl) | (simp [*, errW_none, errW_some] <;> rfl), by repeat (first | (with_reducible first | exact HB.out | apply hA | apply hN | apply hD | refine below_set ?_ GE390.out | refine below_set ?_ GE391.out) | exact HB.out)⟩
         · rw [if_neg c71] at H
           have c71b0 : decide (t394 ≤ t392) = false := decide_eq_false c71
           clear c71
           obtain rfl := Option.some.inj H
           go_enter Tryd.func35, Tryd.ntmps35
           try go_wp2_with (first | ((with_reducible refine gate_dst (N := 2) rfl ?_); refine box_event ?hg (N := 2) ?hd (cs := #[.int .i64 a0_0, .int .i64 a0_1]) (t := 25) ?hr ?_; (case hd => rfl); (case hg => rfl); (case hr => first | (go_simp; done) | (go_simp; rfl)); intro gb390 hg w89 hbox hb; have n0_ := aK (below_step (by repeat (first | (with_reducible first | exact HB.out | apply hA | apply hN | apply hD) | exact HB.out)) hb); have n1_ := aK (hbox); have n2_ := aK ((by rw [hg]; exact (below_size (by repeat (first | (with_reducible first | exact HB.out | apply hA | apply hN | apply hD) | exact HB.out))) : w.heap.size ≤ gb390)); have n3_ := aK ((by rw [hg]; exact (below_size (by repeat (first | (with_reducible first | exact HB.out | apply hA | apply hN | apply hD) | exact HB.out))) : w.heap.size ≤ gb390)); clear HB; have HB := n0_; have BK390 := n1_; have GW390 := n2_; have GE390 := n3_; clear n0_ n1_ n2_ n3_; clear hb hbox hg) | ((with_reducible refine gate_dst (N := 3) rfl ?_); refine box_event ?hg (N := 3) ?hd (cs := #[.int .i64 a1_0, .int .i64 a1_1]) (t := 25) ?hr ?_; (case hd => rfl); (case hg => rfl); (case hr => first | (go_simp; done) | (go_simp; rfl)); intro gb391 hg w90 hbox hb; have n0_ := aK (blk_below (g := gb390) (o := .cells #[.int .i64 a0_0, .int .i64 a0_1] 25 (0, 0)) (by (with_reducible repeat (first | refine bR ?_ | refine bA ?_ _)); exact BK390.out) hb); have n1_ := aK (below_step (by repeat (first | (with_reducible first | exact HB.out | apply hA | apply hN | apply hD | refine below_set ?_ GE390.out) | exact HB.out)) hb); have n2_ := aK (hbox); have n3_ := aK ((by rw [hg]; exact (below_size (by repeat (first | (with_reducible first | exact HB.out | apply hA | apply hN | apply hD | refine below_set ?_ GE390.out) | exact HB.out))) : w.heap.size ≤ gb391)); have n4_ := aK ((by rw [hg]; exact (below_size (by repeat (first | (with_reducible first | exact HB.out | apply hA | apply hN | apply hD | refine below_set ?_ GE390.out) | exact HB.out))) : w.heap.size ≤ gb391)); have n5_ := aK ((by rw [hg]; exact Nat.ne_of_lt (blk_lt (g := gb390) (o := .cells #[.int .i64 a0_0, .int .i64 a0_1] 25 (0, 0)) (by (with_reducible repeat (first | refine bR ?_ | refine bA ?_ _)); exact BK390.out)) : gb390 ≠ gb391)); have n6_ := aK ((by rw [hg]; exact Nat.ne_of_gt (blk_lt (g := gb390) (o := .cells #[.int .i64 a0_0, .int .i64 a0_1] 25 (0, 0)) (by (with_reducible repeat (first | refine bR ?_ | refine bA ?_ _)); exact BK390.out)) : gb391 ≠ gb390)); clear BK390; clear HB; have BK390 := n0_; have HB := n1_; have BK391 := n2_; have GW391 := n3_; have GE391 := n4_; have NB390_391 := n5_; have NB391_390 := n6_; clear n0_ n1_ n2_ n3_ n4_ n5_ n6_; clear hb hbox hg))
           have n0_ := aK (blk_drew BK390.out)
           have n1_ := aK (blk_drew BK391.out)
           have n2_ := aK (below_drew1 HB.out)
           clear BK390
           clear BK391
           clear HB
           have BK390 := n0_
           have BK391 := n1_
           have HB := n2_
           clear n0_ n1_ n2_
           refine start_ (n := 6) (S := fun w' => w'.cell? ⟨gb390, 0, none⟩ = some (.int .i64 a0_0) ∧ w'.cell? ⟨gb390, 1, none⟩ = some (.int .i64 a0_1) ∧ w'.cell? ⟨gb391, 0, none⟩ = some (.int .i64 a1_0) ∧ w'.cell? ⟨gb391, 1, none⟩ = some (.int .i64 a1_1)) (ds := [4, 5]) #[Z,Z,Z,Z,Z,Z] (by kernel_rfl) rfl rfl ⟨(blk_cell BK390.out 0).trans rfl, (blk_cell BK390.out 1).trans rfl, (blk_cell BK391.out 0).trans rfl, (blk_cell BK391.out 1).trans rfl⟩ (fun hHeld => ?_)
           generalize w90.drew = w91 at BK390 BK391 HB hHeld ⊢
           refine take_ (i := 0) (N := some 5) (v := ?_) (a' := ?_) #[Y,Z,Z,Z,Z,Z] rfl rfl (by kernel_rfl) (fun _ _ _ h => h) (Or.inl ⟨by rfl, ?_⟩) hHeld ?_ ?_
           rotate_left
           · rintro w' ⟨s0, s1, s2, s3⟩
             go_simp
             with_reducible rfl
           rotate_left
           · simp only [Act.put, sA, sB, sC, i64_w, i32_w]
             rfl
           refine take_ (i := 2) (N := some 7) (v := ?_) (a' := ?_) #[Y,Z,Y,Z,Z,Z] rfl rfl (by kernel_rfl) (fun _ _ _ h => h) (Or.inl ⟨by rfl, ?_⟩) hHeld ?_ ?_
           rotate_left
           · rintro w' ⟨s0, s1, s2, s3⟩
             go_simp
             with_reducible rfl
           rotate_left
           · simp only [Act.put, sA, sB, sC, i64_w, i32_w]
             rfl
           refine one_ (i := 1) (N := some 6) #[Y,Y,Y,Z,Z,Z] rfl rfl (by kernel_rfl) (by decide) (fun K hK => ?_)
           refine goes_ Tryd.func42 (by kernel_rfl) rfl #[.agg #[.int .i64 a0_0, .int .i64 a0_1]] (by rfl) rfl rfl (by (try simp only [mA, mB, mC]); first | done | rfl) ?_
           with_reducible refine (timeboundref08_Form.calls k a0_0 a0_1 t392 t393 _ A3.out).mono ?_
           rintro e w92 ⟨rfl, hb⟩
           refine ⟨_, rfl, ?_⟩
           have n0_ := aK (blk_below (g := gb390) (o := .cells #[.int .i64 a0_0, .int .i64 a0_1] 25 (0, 0)) (by (with_reducible repeat (first | refine bR ?_ | refine bA ?_ _)); exact BK390.out) hb)
           have n1_ := aK (blk_below (g := gb391) (o := .cells #[.int .i64 a1_0, .int .i64 a1_1] 25 (0, 0)) (by (with_reducible repeat (first | refine bR ?_ | refine bA ?_ _)); exact BK391.out) hb)
           have n2_ := aK (below_step (by repeat (first | (with_reducible first | exact HB.out | apply hA | apply hN | apply hD | refine below_set ?_ GE390.out | refine below_set ?_ GE391.out) | exact HB.out)) hb)
           clear BK390
           clear BK391
           clear HB
           have BK390 := n0_
           have BK391 := n1_
           have HB := n2_
           clear n0_ n1_ n2_
           (try clear hb)
           (try clear hb2)
           (try clear hk)
           (try clear hi)
           refine hK.out _ _ ⟨(blk_cell BK390.out 0).trans rfl, (blk_cell BK390.out 1).trans rfl, (blk_cell BK391.out 0).trans rfl, (blk_cell BK391.out 1).trans rfl⟩ (fun hHeld => ?_)
           clear hK K
           refine norm_ (a' := ?_) ?_ ?_
           rotate_left
           · show Act.put _ (some 6) _ = _
             simp only [Act.put, sA, sB, sC, i64_w, i32_w]
             rfl
           refine one_ (i := 3) (N := some 8) #[Y,Y,Y,Y,Z,Z] rfl rfl (by kernel_rfl) (by decide) (fun K hK => ?_)
           refine goes_ Tryd.func42 (by kernel_rfl) rfl #[.agg #[.int .i64 a1_0, .int .i64 a1_1]] (by rfl) rfl rfl (by (try simp only [mA, mB, mC]); first | done | rfl) ?_
           with_reducible refine (timeboundref08_Form.calls k a1_0 a1_1 t394 t395 _ A4.out).mono ?_
           rintro e w93 ⟨rfl, hb⟩
           refine ⟨_, rfl, ?_⟩
           have n0_ := aK (blk_below (g := gb390) (o := .cells #[.int .i64 a0_0, .int .i64 a0_1] 25 (0, 0)) (by (with_reducible repeat (first | refine bR ?_ | refine bA ?_ _)); exact BK390.out) hb)
           have n1_ := aK (blk_below (g := gb391) (o := .cells #[.int .i64 a1_0, .int .i64 a1_1] 25 (0, 0)) (by (with_reducible repeat (first | refine bR ?_ | refine bA ?_ _)); exact BK391.out) hb)
           have n2_ := aK (below_step (by repeat (first | (with_reducible first | exact HB.out | apply hA | apply hN | apply hD | refine below_set ?_ GE390.out | refine below_set ?_ GE391.out) | exact HB.out)) hb)
           clear BK390
           clear BK391
           clear HB
           have BK390 := n0_
           have BK391 := n1_
           have HB := n2_
           clear n0_ n1_ n2_
           (try clear hb)
           (try clear hb2)
           (try clear hk)
           (try clear hi)
           refine hK.out _ _ ⟨(blk_cell BK390.out 0).trans rfl, (blk_cell BK390.out 1).trans rfl, (blk_cell BK391.out 0).trans rfl, (blk_cell BK391.out 1).trans rfl⟩ (fun hHeld => ?_)
           clear hK K
           refine norm_ (a' := ?_) ?_ ?_
           rotate_left
           · show Act.put _ (some 8) _ = _
             simp only [Act.put, sA, sB, sC, i64_w, i32_w]
             rfl
           refine last_ (i := 4) (N := none) #[Y,Y,Y,Y,Y,Z] rfl rfl (by kernel_rfl) (by decide) (fun K hK => ?_)
           have hs94 : w93.cell? ⟨gb390, 0, none⟩ = some (.int .i64 a0_0) := (blk_cell BK390.out 0).trans rfl
           have hfs94 := blk_frozen BK390.out 0
           have hns94_1 := NB391_390.out
           have hms94_1 := NB390_391.out
           have hs95 : w93.cell? ⟨gb390, 1, none⟩ = some (.int .i64 a0_1) := (blk_cell BK390.out 1).trans rfl
           have hfs95 := blk_frozen BK390.out 1
           have hns95_1 := NB391_390.out
           have hms95_1 := NB390_391.out
           refine skip_ (w1 := ?_) (by rfl) rfl ?_ ?_
           rotate_left
           · go_simp
             rfl
           refine hK.out _ _ ?_
           clear hK K
           refine last_ (i := 5) (N := none) #[Y,Y,Y,Y,Y,Y] rfl rfl (by kernel_rfl) (by decide) (fun K hK => ?_)
           have hs96 : w93.cell? ⟨gb391, 0, none⟩ = some (.int .i64 a1_0) := (blk_cell BK391.out 0).trans rfl
           have hfs96 := blk_frozen BK391.out 0
           have hns96_0 := NB390_391.out
           have hms96_0 := NB391_390.out
           have hs97 : w93.cell? ⟨gb391, 1, none⟩ = some (.int .i64 a1_1) := (blk_cell BK391.out 1).trans rfl
           have hfs97 := blk_frozen BK391.out 1
           have hns97_0 := NB390_391.out
           have hms97_0 := NB391_390.out
           refine skip_ (w1 := ?_) (by rfl) rfl ?_ ?_
           rotate_left
           · go_simp
             rfl
           refine hK.out _ _ ?_
           clear hK K
           refine done_ (by kernel_rfl) ?_
           try go_wp2
           have n0_ : Aside0 (((((w93.setCell ⟨gb390, 0, none⟩ (.int .i64 t392)).setCell ⟨gb390, 1, none⟩ (.int .i64 t393)).setCell ⟨gb391, 0, none⟩ (.int .i64 t394)).setCell ⟨gb391, 1, none⟩ (.int .i64 t395)).heap[gb390]? = some (.cells #[.int .i64 t392, .int .i64 t393] 25 (0, 0))) := ⟨by (with_reducible repeat (first | refine bR ?_ | refine bA ?_ _)); refine blk_far ?_ NB390_391.out _; (with_reducible repeat (first | refine bR ?_ | refine bA ?_ _)); refine blk_far ?_ NB390_391.out _; (with_reducible repeat (first | refine bR ?_ | refine bA ?_ _)); refine blk_put (cs := #[.int .i64 t392, .int .i64 a0_1]) ?_ 1 _ rfl; (with_reducible repeat (first | refine bR ?_ | refine bA ?_ _)); refine blk_put (cs := #[.int .i64 a0_0, .int .i64 a0_1]) ?_ 0 _ rfl; (with_reducible repeat (first | refine bR ?_ | refine bA ?_ _)); exact BK390.out⟩
           have n1_ : Aside0 (((((w93.setCell ⟨gb390, 0, none⟩ (.int .i64 t392)).setCell ⟨gb390, 1, none⟩ (.int .i64 t393)).setCell ⟨gb391, 0, none⟩ (.int .i64 t394)).setCell ⟨gb391, 1, none⟩ (.int .i64 t395)).heap[gb391]? = some (.cells #[.int .i64 t394, .int .i64 t395] 25 (0, 0))) := ⟨by (with_reducible repeat (first | refine bR ?_ | refine bA ?_ _)); refine blk_put (cs := #[.int .i64 t394, .int .i64 a1_1]) ?_ 1 _ rfl; (with_reducible repeat (first | refine bR ?_ | refine bA ?_ _)); refine blk_put (cs := #[.int .i64 a1_0, .int .i64 a1_1]) ?_ 0 _ rfl; (with_reducible repeat (first | refine bR ?_ | refine bA ?_ _)); refine blk_far ?_ NB391_390.out _; (with_reducible repeat (first | refine bR ?_ | refine bA ?_ _)); refine blk_far ?_ NB391_390.out _; (with_reducible repeat (first | refine bR ?_ | refine bA ?_ _)); exact BK391.out⟩
           have n2_ : Aside0 (Below w.heap.size w ((((w93.setCell ⟨gb390, 0, none⟩ (.int .i64 t392)).setCell ⟨gb390, 1, none⟩ (.int .i64 t393)).setCell ⟨gb391, 0, none⟩ (.int .i64 t394)).setCell ⟨gb391, 1, none⟩ (.int .i64 t395))) := ⟨by repeat (first | (with_reducible first | exact HB.out | apply hA | apply hN | apply hD | refine below_set ?_ GE390.out | refine below_set ?_ GE391.out) | exact HB.out)⟩
           (try clear BK390)
           (try clear BK391)
           (try clear HB)
           generalize ((((w93.setCell ⟨gb390, 0, none⟩ (.int .i64 t392)).setCell ⟨gb390, 1, none⟩ (.int .i64 t393)).setCell ⟨gb391, 0, none⟩ (.int .i64 t394)).setCell ⟨gb391, 1, none⟩ (.int .i64 t395)) = w98 at n0_ n1_ n2_ ⊢
           have BK390 := n0_
           have BK391 := n1_
           have HB := n2_
           clear n0_ n1_ n2_
           have n0_ := aK (blk_drew BK390.out)
           have n1_ := aK (blk_drew BK391.out)
           have n2_ := aK (below_drew1 HB.out)
           clear BK390
           clear BK391
           clear HB
           have BK390 := n0_
           have BK391 := n1_
           have HB := n2_
           clear n0_ n1_ n2_
           refine start_ (n := 4) (S := fun w' => w'.cell? ⟨gb390, 0, none⟩ = some (.int .i64 t392) ∧ w'.cell? ⟨gb390, 1, none⟩ = some (.int .i64 t393)) (ds := []) #[Z,Z,Z,Z] (by kernel_rfl) rfl rfl ⟨(blk_cell BK390.out 0).trans rfl, (blk_cell BK390.out 1).trans rfl⟩ (fun hHeld => ?_)
           generalize w98.drew = w99 at BK390 BK391 HB hHeld ⊢
           refine take_ (i := 0) (N := some 10) (v := ?_) (a' := ?_) #[Y,Z,Z,Z] rfl rfl (by kernel_rfl) (fun _ _ _ h => h) (Or.inl ⟨by rfl, ?_⟩) hHeld ?_ ?_
           rotate_left
           · rintro w' ⟨s0, s1⟩
             go_simp
             with_reducible rfl
           rotate_left
           · simp only [Act.put, sA, sB, sC, i64_w, i32_w]
             rfl
           refine one_ (i := 1) (N := some 11) #[Y,Y,Z,Z] rfl rfl (by kernel_rfl) (by decide) (fun K hK => ?_)
           refine goes_ Tryd.func21 (by kernel_rfl) rfl #[] (by rfl) rfl rfl (by (try simp only [mA, mB, mC]); first | done | rfl) ?_
           with_reducible refine (timeboundref08_None.calls  t396 t397 _ A5.out).mono ?_
           rintro e w100 ⟨rfl, hb⟩
           refine ⟨_, rfl, ?_⟩
           have n0_ := aK (blk_below (g := gb390) (o := .cells #[.int .i64 t392, .int .i64 t393] 25 (0, 0)) (by (with_reducible repeat (first | refine bR ?_ | refine bA ?_ _)); exact BK390.out) hb)
           have n1_ := aK (blk_below (g := gb391) (o := .cells #[.int .i64 t394, .int .i64 t395] 25 (0, 0)) (by (with_reducible repeat (first | refine bR ?_ | refine bA ?_ _)); exact BK391.out) hb)
           have n2_ := aK (below_step (by repeat (first | (with_reducible first | exact HB.out | apply hA | apply hN | apply hD | refine below_set ?_ GE390.out | refine below_set ?_ GE391.out) | exact HB.out)) hb)
           clear BK390
           clear BK391
           clear HB
           have BK390 := n0_
           have BK391 := n1_
           have HB := n2_
           clear n0_ n1_ n2_
           (try clear hb)
           (try clear hb2)
           (try clear hk)
           (try clear hi)
           refine hK.out _ _ ⟨(blk_cell BK390.out 0).trans rfl, (blk_cell BK390.out 1).trans rfl⟩ (fun hHeld => ?_)
           clear hK K
           refine norm_ (a' := ?_) ?_ ?_
           rotate_left
           · show Act.put _ (some 11) _ = _
             simp only [Act.put, sA, sB, sC, i64_w, i32_w]
             rfl
           refine pure_ (i := 2) (N := some 12) (v := ?_) (a' := ?_) #[Y,Y,Y,Z] rfl rfl (by kernel_rfl) (fun _ _ _ h => h) (Or.inl ⟨by rfl, ?_⟩) ?_ ?_
           rotate_left
           · intro w'
             go_simp
             with_reducible rfl
           rotate_left
           · simp only [Act.put, sA, sB, sC, i64_w, i32_w]
             rfl
           refine pure_ (i := 3) (N := some 9) (v := ?_) (a' := ?_) #[Y,Y,Y,Y] rfl rfl (by kernel_rfl) (fun _ _ _ h => h) (Or.inl ⟨by rfl, ?_⟩) ?_ ?_
           rotate_left
           · intro w'
             go_simp
             with_reducible rfl
           rotate_left
           · simp only [Act.put, sA, sB, sC, i64_w, i32_w]
             rfl
           refine done_ (by kernel_rfl) ?_
           try go_wp2
           have n0_ := aK (blk_drew BK390.out)
           have n1_ := aK (blk_drew BK391.out)
           have n2_ := aK (below_drew1 HB.out)
           clear BK390
           clear BK391
           clear HB
           have BK390 := n0_
           have BK391 := n1_
           have HB := n2_
           clear n0_ n1_ n2_
           refine start_ (n := 4) (S := fun w' => w'.cell? ⟨gb391, 0, none⟩ = some (.int .i64 t394) ∧ w'.cell? ⟨gb391, 1, none⟩ = some (.int .i64 t395)) (ds := []) #[Z,Z,Z,Z] (by kernel_rfl) rfl rfl ⟨(blk_cell BK391.out 0).trans rfl, (blk_cell BK391.out 1).trans rfl⟩ (fun hHeld => ?_)
           generalize w100.drew = w101 at BK390 BK391 HB hHeld ⊢
           refine take_ (i := 0) (N := some 14) (v := ?_) (a' := ?_) #[Y,Z,Z,Z] rfl rfl (by kernel_rfl) (fun _ _ _ h => h) (Or.inl ⟨by rfl, ?_⟩) hHeld ?_ ?_
           rotate_left
           · rintro w' ⟨s0, s1⟩
             go_simp
             with_reducible rfl
           rotate_left
           · simp only [Act.put, sA, sB, sC, i64_w, i32_w]
             rfl
           refine one_ (i := 1) (N := some 15) #[Y,Y,Z,Z] rfl rfl (by kernel_rfl) (by decide) (fun K hK => ?_)
           refine goes_ Tryd.func21 (by kernel_rfl) rfl #[] (by rfl) rfl rfl (by (try simp only [mA, mB, mC]); first | done | rfl) ?_
           with_reducible refine (timeboundref08_None.calls  t398 t399 _ A19.out).mono ?_
           rintro e w102 ⟨rfl, hb⟩
           refine ⟨_, rfl, ?_⟩
           have n0_ := aK (blk_below (g := gb390) (o := .cells #[.int .i64 t392, .int .i64 t393] 25 (0, 0)) (by (with_reducible repeat (first | refine bR ?_ | refine bA ?_ _)); exact BK390.out) hb)
           have n1_ := aK (blk_below (g := gb391) (o := .cells #[.int .i64 t394, .int .i64 t395] 25 (0, 0)) (by (with_reducible repeat (first | refine bR ?_ | refine bA ?_ _)); exact BK391.out) hb)
           have n2_ := aK (below_step (by repeat (first | (with_reducible first | exact HB.out | apply hA | apply hN | apply hD | refine below_set ?_ GE390.out | refine below_set ?_ GE391.out) | exact HB.out)) hb)
           clear BK390
           clear BK391
           clear HB
           have BK390 := n0_
           have BK391 := n1_
           have HB := n2_
           clear n0_ n1_ n2_
           (try clear hb)
           (try clear hb2)
           (try clear hk)
           (try clear hi)
           refine hK.out _ _ ⟨(blk_cell BK391.out 0).trans rfl, (blk_cell BK391.out 1).trans rfl⟩ (fun hHeld => ?_)
           clear hK K
           refine norm_ (a' := ?_) ?_ ?_
           rotate_left
           · show Act.put _ (some 15) _ = _
             simp only [Act.put, sA, sB, sC, i64_w, i32_w]
             rfl
           refine pure_ (i := 2) (N := some 16) (v := ?_) (a' := ?_) #[Y,Y,Y,Z] rfl rfl (by kernel_rfl) (fun _ _ _ h => h) (Or.inl ⟨by rfl, ?_⟩) ?_ ?_
           rotate_left
           · intro w'
             go_simp
             with_reducible rfl
           rotate_left
           · simp only [Act.put, sA, sB, sC, i64_w, i32_w]
             rfl
           refine pure_ (i := 3) (N := some 13) (v := ?_) (a' := ?_) #[Y,Y,Y,Y] rfl rfl (by kernel_rfl) (fun _ _ _ h => h) (Or.inl ⟨by rfl, ?_⟩) ?_ ?_
           rotate_left
           · intro w'
             go_simp
             with_reducible rfl
           rotate_left
           · simp only [Act.put, sA, sB, sC, i64_w, i32_w]
             rfl
           refine done_ (by kernel_rfl) ?_
           have hnb103 := NB391_390.out
           have hnc103 := NB390_391.out
           have hcz104_0 : w102.cell? ⟨gb391, 0, none⟩ = some (.int .i64 t394) := (blk_cell BK391.out 0).trans rfl
           have hcz104_1 : w102.cell? ⟨gb391, 1, none⟩ = some (.int .i64 t395) := (blk_cell BK391.out 1).trans rfl
           have hfz104_0 := blk_frozen BK391.out 0
           have hfz104_1 := blk_frozen BK391.out 1
           have hcz105_0 : w102.cell? ⟨gb390, 0, none⟩ = some (.int .i64 t392) := (blk_cell BK390.out 0).trans rfl
           have hcz105_1 : w102.cell? ⟨gb390, 1, none⟩ = some (.int .i64 t393) := (blk_cell BK390.out 1).trans rfl
           have hfz105_0 := blk_frozen BK390.out 0
           have hfz105_1 := blk_frozen BK390.out 1
           try go_wp2
           go_ret
           exact ⟨by first | rfl | (simp [errW_none, errW_some] <;> rfl) | (simp [*, errW_none, errW_some] <;> rfl), by repeat (first | (with_reducible first | exact HB.out | apply hA | apply hN | apply hD | refine below_set ?_ GE390.out | refine below_set ?_ GE391.out) | exact HB.out)⟩
end Go.Proofs.YtaphfmbloappkaaDoorG.PAll
