-- The walks of some functions, printed by a program for this claim.
import Derived.Test.YtaphfmbloappkaaDoorPAllx0
import Derived.Test.YtaphfmbloappkaaDoorPAllx1
import Derived.Test.YtaphfmbloappkaaDoorPAllx2
import Derived.Test.YtaphfmbloappkaaDoorPAllx5
namespace Go.Proofs.YtaphfmbloappkaaDoorG.PAll
open Go.RowKit Go.Proofs.YtaphfmbloappkaaDoorW.PrintWords Go.Proofs.YtaphfmbloappkaaDoorW.PrintLast Go.Proofs.YtaphfmbloappkaaDoorW.PrintMore
attribute [local go_sem] max2_int min2_int max_two min_two max_three min_three max_four min_four   -- for this text's walks alone
set_option linter.unusedVariables false
set_option linter.unusedSimpArgs false
attribute [local go_sem high] eqA25
/-! ### congruence_Leq: function 17 -/
def congruence_Leq.f (k : Nat) (a0_0 : Int) (a0_1 : Int) (a1_0 : Int) (a1_1 : Int) : Option (Bool) := (congruence_Fix.f a0_0 a0_1).bind fun bt218 => ((congruence_Fix.f a1_0 a1_1).bind fun bt220 => ((congruence_None.f).bind fun bt222 => (if (bt218.1 == bt222.1 && (bt218.2 == bt222.2)) = true then (some true) else (if bt218.1 = 0 then ((congruence_Has.f k bt220.1 bt220.2 bt218.2).bind fun t224 => (some t224)) else (if bt220.1 ≥ 1 then (if bt220.1 ≤ bt218.1 then (if bt220.1 = 0 then (none) else (some ((Int.tmod (wrap64 (bt218.2 - bt220.2)) bt220.1) == 0))) else (some false)) else (some false))))))
theorem congruence_Leq.mono : ∀ a0 a1 a2 a3 k, LeO (congruence_Leq.f k a0 a1 a2 a3) (congruence_Leq.f (k + 1) a0 a1 a2 a3) := by
 intro a0 a1 a2 a3 k
 unfold congruence_Leq.f
 repeat' first
  | (with_reducible exact congruence_Has.mono _ _ _ _)
  | (with_reducible exact LeO.refl _)
  | (with_reducible exact LeO.none _)
  | (with_reducible refine LeO.ite ?_ ?_)
  | (with_reducible refine LeO.bind ?_ (fun _ => ?_))
  | exact congruence_Has.mono _ _ _ _
  | exact LeO.none _
  | refine LeO.ite ?_ ?_
  | refine LeO.bind ?_ (fun _ => ?_)
set_option maxHeartbeats 80000000 in
set_option maxRecDepth 100000 in
theorem congruence_Leq.calls (k : Nat) (a0_0 : Int) (a0_1 : Int) (a1_0 : Int) (a1_1 : Int) (r : Bool) (w : World) (h : congruence_Leq.f k a0_0 a0_1 a1_0 a1_1 = some r) :
 Calls Tryd.prog 17 #[.agg #[.int .i64 a0_0, .int .i64 a0_1], .agg #[.int .i64 a1_0, .int .i64 a1_1]] w fun e w' => e = .returned (.bool r) ∧ Below w.heap.size w w' := by
 have hu25 := Tryd.underlying25
 have HB := aK (Below.refl w.heap.size w)
 have H : ((congruence_Fix.f a0_0 a0_1).bind fun bt218 => ((congruence_Fix.f a1_0 a1_1).bind fun bt220 => ((congruence_None.f).bind fun bt222 => (if (bt218.1 == bt222.1 && (bt218.2 == bt222.2)) = true then (some true) else (if bt218.1 = 0 then ((congruence_Has.f k bt220.1 bt220.2 bt218.2).bind fun t224 => (some t224)) else (if bt220.1 ≥ 1 then (if bt220.1 ≤ bt218.1 then (if bt220.1 = 0 then (none) else (some ((Int.tmod (wrap64 (bt218.2 - bt220.2)) bt220.1) == 0))) else (some false)) else (some false))))))) = some r := h
 clear h
 replace H := Option.bind_eq_some_iff.mp H
 obtain ⟨⟨t218, t219⟩, A30, H⟩ := H
 replace H : ((congruence_Fix.f a1_0 a1_1).bind fun bt220 => ((congruence_None.f).bind fun bt222 => (if (t218 == bt222.1 && (t219 == bt222.2)) = true then (some true) else (if t218 = 0 then ((congruence_Has.f k bt220.1 bt220.2 t219).bind fun t224 => (some t224)) else (if bt220.1 ≥ 1 then (if bt220.1 ≤ t218 then (if bt220.1 = 0 then (none) else (some ((Int.tmod (wrap64 (t219 - bt220.2)) bt220.1) == 0))) else (some false)) else (some false)))))) = some r := H
 have A3 := aK A30
 clear A30
 replace H := Option.bind_eq_some_iff.mp H
 obtain ⟨⟨t220, t221⟩, A40, H⟩ := H
 replace H : ((congruence_None.f).bind fun bt222 => (if (t218 == bt222.1 && (t219 == bt222.2)) = true then (some true) else (if t218 = 0 then ((congruence_Has.f k t220 t221 t219).bind fun t224 => (some t224)) else (if t220 ≥ 1 then (if t220 ≤ t218 then (if t220 = 0 then (none) else (some ((Int.tmod (wrap64 (t219 - t221)) t220) == 0))) else (some false)) else (some false))))) = some r := H
 have A4 := aK A40
 clear A40
 replace H := Option.bind_eq_some_iff.mp H
 obtain ⟨⟨t222, t223⟩, A50, H⟩ := H
 replace H : (if (t218 == t222 && (t219 == t223)) = true then (some true) else (if t218 = 0 then ((congruence_Has.f k t220 t221 t219).bind fun t224 => (some t224)) else (if t220 ≥ 1 then (if t220 ≤ t218 then (if t220 = 0 then (none) else (some ((Int.tmod (wrap64 (t219 - t221)) t220) == 0))) else (some false)) else (some false)))) = some r := H
 have A5 := aK A50
 clear A50
 by_cases c6 : (t218 == t222 && (t219 == t223)) = true
 · rw [if_pos c6] at H
   have c6b0 : (t218 == t222 && (t219 == t223)) = true := c6
   (try (have c6b1 : decide (t218 = t222 && (t219 == t223)) = true := by simpa using c6))
   (try (have c6b2 : (t218 == t222 && (t219 == t223)) = true := by simpa using c6))
   clear c6
   obtain rfl := Option.some.inj H
   go_enter Tryd.func17, Tryd.ntmps17
   try go_wp2_with (first | ((with_reducible refine gate_dst (N := 2) rfl ?_); refine box_event ?hg (N := 2) ?hd (cs := #[.int .i64 a0_0, .int .i64 a0_1]) (t := 25) ?hr ?_; (case hd => rfl); (case hg => rfl); (case hr => first | (go_simp; done) | (go_simp; rfl)); intro gb216 hg w7 hbox hb; have n0_ := aK (below_step (by repeat (first | (with_reducible first | exact HB.out | apply hA | apply hN | apply hD) | exact HB.out)) hb); have n1_ := aK (hbox); have n2_ := aK ((by rw [hg]; exact (below_size (by repeat (first | (with_reducible first | exact HB.out | apply hA | apply hN | apply hD) | exact HB.out))) : w.heap.size ≤ gb216)); have n3_ := aK ((by rw [hg]; exact (below_size (by repeat (first | (with_reducible first | exact HB.out | apply hA | apply hN | apply hD) | exact HB.out))) : w.heap.size ≤ gb216)); clear HB; have HB := n0_; have BK216 := n1_; have GW216 := n2_; have GE216 := n3_; clear n0_ n1_ n2_ n3_; clear hb hbox hg) | ((with_reducible refine gate_dst (N := 3) rfl ?_); refine box_event ?hg (N := 3) ?hd (cs := #[.int .i64 a1_0, .int .i64 a1_1]) (t := 25) ?hr ?_; (case hd => rfl); (case hg => rfl); (case hr => first | (go_simp; done) | (go_simp; rfl)); intro gb217 hg w8 hbox hb; have n0_ := aK (blk_below (g := gb216) (o := .cells #[.int .i64 a0_0, .int .i64 a0_1] 25 (0, 0)) (by (with_reducible repeat (first | refine bR ?_ | refine bA ?_ _)); exact BK216.out) hb); have n1_ := aK (below_step (by repeat (first | (with_reducible first | exact HB.out | apply hA | apply hN | apply hD | refine below_set ?_ GE216.out) | exact HB.out)) hb); have n2_ := aK (hbox); have n3_ := aK ((by rw [hg]; exact (below_size (by repeat (first | (with_reducible first | exact HB.out | apply hA | apply hN | apply hD | refine below_set ?_ GE216.out) | exact HB.out))) : w.heap.size ≤ gb217)); have n4_ := aK ((by rw [hg]; exact (below_size (by repeat (first | (with_reducible first | exact HB.out | apply hA | apply hN | apply hD | refine below_set ?_ GE216.out) | exact HB.out))) : w.heap.size ≤ gb217)); have n5_ := aK ((by rw [hg]; exact Nat.ne_of_lt (blk_lt (g := gb216) (o := .cells #[.int .i64 a0_0, .int .i64 a0_1] 25 (0, 0)) (by (with_reducible repeat (first | refine bR ?_ | refine bA ?_ _)); exact BK216.out)) : gb216 ≠ gb217)); have n6_ := aK ((by rw [hg]; exact Nat.ne_of_gt (blk_lt (g := gb216) (o := .cells #[.int .i64 a0_0, .int .i64 a0_1] 25 (0, 0)) (by (with_reducible repeat (first | refine bR ?_ | refine bA ?_ _)); exact BK216.out)) : gb217 ≠ gb216)); clear BK216; clear HB; have BK216 := n0_; have HB := n1_; have BK217 := n2_; have GW217 := n3_; have GE217 := n4_; have NB216_217 := n5_; have NB217_216 := n6_; clear n0_ n1_ n2_ n3_ n4_ n5_ n6_; clear hb hbox hg))
   have n0_ := aK (blk_drew BK216.out)
   have n1_ := aK (blk_drew BK217.out)
   have n2_ := aK (below_drew1 HB.out)
   clear BK216
   clear BK217
   clear HB
   have BK216 := n0_
   have BK217 := n1_
   have HB := n2_
   clear n0_ n1_ n2_
   refine start_ (n := 6) (S := fun w' => w'.cell? ⟨gb216, 0, none⟩ = some (.int .i64 a0_0) ∧ w'.cell? ⟨gb216, 1, none⟩ = some (.int .i64 a0_1) ∧ w'.cell? ⟨gb217, 0, none⟩ = some (.int .i64 a1_0) ∧ w'.cell? ⟨gb217, 1, none⟩ = some (.int .i64 a1_1)) (ds := [4, 5]) #[Z,Z,Z,Z,Z,Z] (by kernel_rfl) rfl rfl ⟨(blk_cell BK216.out 0).trans rfl, (blk_cell BK216.out 1).trans rfl, (blk_cell BK217.out 0).trans rfl, (blk_cell BK217.out 1).trans rfl⟩ (fun hHeld => ?_)
   generalize w8.drew = w9 at BK216 BK217 HB hHeld ⊢
   refine take_ (i := 0) (N := some 5) (v := ?_) (a' := ?_) #[Y,Z,Z,Z,Z,Z] rfl rfl (by kernel_rfl) (fun _ _ _ h => h) (Or.inl ⟨by rfl, ?_⟩) hHeld ?_ ?_
   rotate_left
   · rintro w' ⟨s0, s1, s2, s3⟩
     go_simp
     with_reducible rfl
   rotate_left
   · simp only [Act.put, sA, sB, sC, i64_w, i32_w]
     rfl
   refine take_ (i := 2) (N := some 7) (v := ?_) (a' := ?_) #[Y,Z,Y,Z,Z,Z] rfl rfl (by kernel_rfl) (fun _ _ _ h => h) (Or.inl ⟨by rfl, ?_⟩) hHeld ?_ ?_
   rotate_left
   · rintro w' ⟨s0, s1, s2, s3⟩
     go_simp
     with_reducible rfl
   rotate_left
   · simp only [Act.put, sA, sB, sC, i64_w, i32_w]
     rfl
   refine one_ (i := 1) (N := some 6) #[Y,Y,Y,Z,Z,Z] rfl rfl (by kernel_rfl) (by decide) (fun K hK => ?_)
   refine goes_ Tryd.func24 (by kernel_rfl) rfl #[.agg #[.int .i64 a0_0, .int .i64 a0_1]] (by rfl) rfl rfl (by (try simp only [mA, mB, mC]); first | done | rfl) ?_
   with_reducible refine (congruence_Fix.calls a0_0 a0_1 t218 t219 _ A3.out).mono ?_
   rintro e w10 ⟨rfl, hb⟩
   refine ⟨_, rfl, ?_⟩
   have n0_ := aK (blk_below (g := gb216) (o := .cells #[.int .i64 a0_0, .int .i64 a0_1] 25 (0, 0)) (by (with_reducible repeat (first | refine bR ?_ | refine bA ?_ _)); exact BK216.out) hb)
   have n1_ := aK (blk_below (g := gb217) (o := .cells #[.int .i64 a1_0, .int .i64 a1_1] 25 (0, 0)) (by (with_reducible repeat (first | refine bR ?_ | refine bA ?_ _)); exact BK217.out) hb)
   have n2_ := aK (below_step (by repeat (first | (with_reducible first | exact HB.out | apply hA | apply hN | apply hD | refine below_set ?_ GE216.out | refine below_set ?_ GE217.out) | exact HB.out)) hb)
   clear BK216
   clear BK217
   clear HB
   have BK216 := n0_
   have BK217 := n1_
   have HB := n2_
   clear n0_ n1_ n2_
   (try clear hb)
   (try clear hb2)
   (try clear hk)
   (try clear hi)
   refine hK.out _ _ ⟨(blk_cell BK216.out 0).trans rfl, (blk_cell BK216.out 1).trans rfl, (blk_cell BK217.out 0).trans rfl, (blk_cell BK217.out 1).trans rfl⟩ (fun hHeld => ?_)
   clear hK K
   refine norm_ (a' := ?_) ?_ ?_
   rotate_left
   · show Act.put _ (some 6) _ = _
     simp only [Act.put, sA, sB, sC, i64_w, i32_w]
     rfl
   refine one_ (i := 3) (N := some 8) #[Y,Y,Y,Y,Z,Z] rfl rfl (by kernel_rfl) (by decide) (fun K hK => ?_)
   refine goes_ Tryd.func24 (by kernel_rfl) rfl #[.agg #[.int .i64 a1_0, .int .i64 a1_1]] (by rfl) rfl rfl (by (try simp only [mA, mB, mC]); first | done | rfl) ?_
   with_reducible refine (congruence_Fix.calls a1_0 a1_1 t220 t221 _ A4.out).mono ?_
   rintro e w11 ⟨rfl, hb⟩
   refine ⟨_, rfl, ?_⟩
   have n0_ := aK (blk_below (g := gb216) (o := .cells #[.int .i64 a0_0, .int .i64 a0_1] 25 (0, 0)) (by (with_reducible repeat (first | refine bR ?_ | refine bA ?_ _)); exact BK216.out) hb)
   have n1_ := aK (blk_below (g := gb217) (o := .cells #[.int .i64 a1_0, .int .i64 a1_1] 25 (0, 0)) (by (with_reducible repeat (first | refine bR ?_ | refine bA ?_ _)); exact BK217.out) hb)
   have n2_ := aK (below_step (by repeat (first | (with_reducible first | exact HB.out | apply hA | apply hN | apply hD | refine below_set ?_ GE216.out | refine below_set ?_ GE217.out) | exact HB.out)) hb)
   clear BK216
   clear BK217
   clear HB
   have BK216 := n0_
   have BK217 := n1_
   have HB := n2_
   clear n0_ n1_ n2_
   (try clear hb)
   (try clear hb2)
   (try clear hk)
   (try clear hi)
   refine hK.out _ _ ⟨(blk_cell BK216.out 0).trans rfl, (blk_cell BK216.out 1).trans rfl, (blk_cell BK217.out 0).trans rfl, (blk_cell BK217.out 1).trans rfl⟩ (fun hHeld => ?_)
   clear hK K
   refine norm_ (a' := ?_) ?_ ?_
   rotate_left
   · show Act.put _ (some 8) _ = _
     simp only [Act.put, sA, sB, sC, i64_w, i32_w]
     rfl
   refine last_ (i := 4) (N := none) #[Y,Y,Y,Y,Y,Z] rfl rfl (by kernel_rfl) (by decide) (fun K hK => ?_)
   have hs12 : w11.cell? ⟨gb216, 0, none⟩ = some (.int .i64 a0_0) := (blk_cell BK216.out 0).trans rfl
   have hfs12 := blk_frozen BK216.out 0
   have hns12_1 := NB217_216.out
   have hms12_1 := NB216_217.out
   have hs13 : w11.cell? ⟨gb216, 1, none⟩ = some (.int .i64 a0_1) := (blk_cell BK216.out 1).trans rfl
   have hfs13 := blk_frozen BK216.out 1
   have hns13_1 := NB217_216.out
   have hms13_1 := NB216_217.out
   refine skip_ (w1 := ?_) (by rfl) rfl ?_ ?_
   rotate_left
   · go_simp
     rfl
   refine hK.out _ _ ?_
   clear hK K
   refine last_ (i := 5) (N := none) #[Y,Y,Y,Y,Y,Y] rfl rfl (by kernel_rfl) (by decide) (fun K hK => ?_)
   have hs14 : w11.cell? ⟨gb217, 0, none⟩ = some (.int .i64 a1_0) := (blk_cell BK217.out 0).trans rfl
   have hfs14 := blk_frozen BK217.out 0
   have hns14_0 := NB216_217.out
   have hms14_0 := NB217_216.out
   have hs15 : w11.cell? ⟨gb217, 1, none⟩ = some (.int .i64 a1_1) := (blk_cell BK217.out 1).trans rfl
   have hfs15 := blk_frozen BK217.out 1
   have hns15_0 := NB216_217.out
   have hms15_0 := NB217_216.out
   refine skip_ (w1 := ?_) (by rfl) rfl ?_ ?_
   rotate_left
   · go_simp
     rfl
   refine hK.out _ _ ?_
   clear hK K
   refine done_ (by kernel_rfl) ?_
   try go_wp2
   have n0_ : Aside0 (((((w11.setCell ⟨gb216, 0, none⟩ (.int .i64 t218)).setCell ⟨gb216, 1, none⟩ (.int .i64 t219)).setCell ⟨gb217, 0, none⟩ (.int .i64 t220)).setCell ⟨gb217, 1, none⟩ (.int .i64 t221)).heap[gb216]? = some (.cells #[.int .i64 t218, .int .i64 t219] 25 (0, 0))) := ⟨by (with_reducible repeat (first | refine bR ?_ | refine bA ?_ _)); refine blk_far ?_ NB216_217.out _; (with_reducible repeat (first | refine bR ?_ | refine bA ?_ _)); refine blk_far ?_ NB216_217.out _; (with_reducible repeat (first | refine bR ?_ | refine bA ?_ _)); refine blk_put (cs := #[.int .i64 t218, .int .i64 a0_1]) ?_ 1 _ rfl; (with_reducible repeat (first | refine bR ?_ | refine bA ?_ _)); refine blk_put (cs := #[.int .i64 a0_0, .int .i64 a0_1]) ?_ 0 _ rfl; (with_reducible repeat (first | refine bR ?_ | refine bA ?_ _)); exact BK216.out⟩
   have n1_ : Aside0 (((((w11.setCell ⟨gb216, 0, none⟩ (.int .i64 t218)).setCell ⟨gb216, 1, none⟩ (.int .i64 t219)).setCell ⟨gb217, 0, none⟩ (.int .i64 t220)).setCell ⟨gb217, 1, none⟩ (.int .i64 t221)).heap[gb217]? = some (.cells #[.int .i64 t220, .int .i64 t221] 25 (0, 0))) := ⟨by (with_reducible repeat (first | refine bR ?_ | refine bA ?_ _)); refine blk_put (cs := #[.int .i64 t220, .int .i64 a1_1]) ?_ 1 _ rfl; (with_reducible repeat (first | refine bR ?_ | refine bA ?_ _)); refine blk_put (cs := #[.int .i64 a1_0, .int .i64 a1_1]) ?_ 0 _ rfl; (with_reducible repeat (first | refine bR ?_ | refine bA ?_ _)); refine blk_far ?_ NB217_216.out _; (with_reducible repeat (first | refine bR ?_ | refine bA ?_ _)); refine blk_far ?_ NB217_216.out _; (with_reducible repeat (first | refine bR ?_ | refine bA ?_ _)); exact BK217.out⟩
   have n2_ : Aside0 (Below w.heap.size w ((((w11.setCell ⟨gb216, 0, none⟩ (.int .i64 t218)).setCell ⟨gb216, 1, none⟩ (.int .i64 t219)).setCell ⟨gb217, 0, none⟩ (.int .i64 t220)).setCell ⟨gb217, 1, none⟩ (.int .i64 t221))) := ⟨by repeat (first | (with_reducible first | exact HB.out | apply hA | apply hN | apply hD | refine below_set ?_ GE216.out | refine below_set ?_ GE217.out) | exact HB.out)⟩
   (try clear BK216)
   (try clear BK217)
   (try clear HB)
   generalize ((((w11.setCell ⟨gb216, 0, none⟩ (.int .i64 t218)).setCell ⟨gb216, 1, none⟩ (.int .i64 t219)).setCell ⟨gb217, 0, none⟩ (.int .i64 t220)).setCell ⟨gb217, 1, none⟩ (.int .i64 t221)) = w16 at n0_ n1_ n2_ ⊢
   have BK216 := n0_
   have BK217 := n1_
   have HB := n2_
   clear n0_ n1_ n2_
   have n0_ := aK (blk_drew BK216.out)
   have n1_ := aK (blk_drew BK217.out)
   have n2_ := aK (below_drew1 HB.out)
   clear BK216
   clear BK217
   clear HB
   have BK216 := n0_
   have BK217 := n1_
   have HB := n2_
   clear n0_ n1_ n2_
   refine start_ (n := 4) (S := fun w' => w'.cell? ⟨gb216, 0, none⟩ = some (.int .i64 t218) ∧ w'.cell? ⟨gb216, 1, none⟩ = some (.int .i64 t219)) (ds := []) #[Z,Z,Z,Z] (by kernel_rfl) rfl rfl ⟨(blk_cell BK216.out 0).trans rfl, (blk_cell BK216.out 1).trans rfl⟩ (fun hHeld => ?_)
   generalize w16.drew = w17 at BK216 BK217 HB hHeld ⊢
   refine take_ (i := 0) (N := some 10) (v := ?_) (a' := ?_) #[Y,Z,Z,Z] rfl rfl (by kernel_rfl) (fun _ _ _ h => h) (Or.inl ⟨by rfl, ?_⟩) hHeld ?_ ?_
   rotate_left
   · rintro w' ⟨s0, s1⟩
     go_simp
     with_reducible rfl
   rotate_left
   · simp only [Act.put, sA, sB, sC, i64_w, i32_w]
     rfl
   refine one_ (i := 1) (N := some 11) #[Y,Y,Z,Z] rfl rfl (by kernel_rfl) (by decide) (fun K hK => ?_)
   refine goes_ Tryd.func9 (by kernel_rfl) rfl #[] (by rfl) rfl rfl (by (try simp only [mA, mB, mC]); first | done | rfl) ?_
   with_reducible refine (congruence_None.calls  t222 t223 _ A5.out).mono ?_
   rintro e w18 ⟨rfl, hb⟩
   refine ⟨_, rfl, ?_⟩
   have n0_ := aK (blk_below (g := gb216) (o := .cells #[.int .i64 t218, .int .i64 t219] 25 (0, 0)) (by (with_reducible repeat (first | refine bR ?_ | refine bA ?_ _)); exact BK216.out) hb)
   have n1_ := aK (blk_below (g := gb217) (o := .cells #[.int .i64 t220, .int .i64 t221] 25 (0, 0)) (by (with_reducible repeat (first | refine bR ?_ | refine bA ?_ _)); exact BK217.out) hb)
   have n2_ := aK (below_step (by repeat (first | (with_reducible first | exact HB.out | apply hA | apply hN | apply hD | refine below_set ?_ GE216.out | refine below_set ?_ GE217.out) | exact HB.out)) hb)
   clear BK216
   clear BK217
   clear HB
   have BK216 := n0_
   have BK217 := n1_
   have HB := n2_
   clear n0_ n1_ n2_
   (try clear hb)
   (try clear hb2)
   (try clear hk)
   (try clear hi)
   refine hK.out _ _ ⟨(blk_cell BK216.out 0).trans rfl, (blk_cell BK216.out 1).trans rfl⟩ (fun hHeld => ?_)
   clear hK K
   refine norm_ (a' := ?_) ?_ ?_
   rotate_left
   · show Act.put _ (some 11) _ = _
     simp only [Act.put, sA, sB, sC, i64_w, i32_w]
     rfl
   refine pure_ (i := 2) (N := some 12) (v := ?_) (a' := ?_) #[Y,Y,Y,Z] rfl rfl (by kernel_rfl) (fun _ _ _ h => h) (Or.inl ⟨by rfl, ?_⟩) ?_ ?_
   rotate_left
   · intro w'
     go_simp
     with_reducible rfl
   rotate_left
   · simp only [Act.put, sA, sB, sC, i64_w, i32_w]
     rfl
   refine pure_ (i := 3) (N := some 9) (v := ?_) (a' := ?_) #[Y,Y,Y,Y] rfl rfl (by kernel_rfl) (fun _ _ _ h => h) (Or.inl ⟨by rfl, ?_⟩) ?_ ?_
   rotate_left
   · intro w'
     go_simp
     with_reducible rfl
   rotate_left
   · simp only [Act.put, sA, sB, sC, i64_w, i32_w]
     rfl
   refine done_ (by kernel_rfl) ?_
   try go_wp2
   go_ret
   exact ⟨by first | rfl | (simp [errW_none, errW_some] <;> rfl) | (simp [*, errW_none, errW_some] <;> rfl), by repeat (first | (with_reducible first | exact HB.out | apply hA | apply hN | apply hD | refine below_set ?_ GE216.out | refine below_set ?_ GE217.out) | exact HB.out)⟩
 · rw [if_neg c6] at H
   have c6b0 : (t218 == t222 && (t219 == t223)) = false := by simpa using c6
   (try (have c6b1 : decide (t218 = t222 && (t219 == t223)) = false := by simpa using c6))
   (try (have c6b2 : (t218 == t222 && (t219 == t223)) = false := by simpa using c6))
   (try (have c6b3 : ¬ (t218 = t222 && (t219 == t223)) := by simpa using c6))
   clear c6
   by_cases c19 : t218 = 0
   · rw [if_pos c19] at H
     have c19b0 : (t218 == 0) = true := beq_iff_eq.mpr c19
     have c19b1 : (t218 != 0) = false := bne_eq_false_iff_eq.mpr c19
     clear c19
     replace H := Option.bind_eq_some_iff.mp H
     obtain ⟨t224, A200, H⟩ := H
     replace H : (some t224) = some r := H
     have A20 := aK A200
     clear A200
     obtain rfl := Option.some.inj H
     go_enter Tryd.func17, Tryd.ntmps17
     try go_wp2_with (first | ((with_reducible refine gate_dst (N := 2) rfl ?_); refine box_event ?hg (N := 2) ?hd (cs := #[.int .i64 a0_0, .int .i64 a0_1]) (t := 25) ?hr ?_; (case hd => rfl); (case hg => rfl); (case hr => first | (go_simp; done) | (go_simp; rfl)); intro gb216 hg w21 hbox hb; have n0_ := aK (below_step (by repeat (first | (with_reducible first | exact HB.out | apply hA | apply hN | apply hD) | exact HB.out)) hb); have n1_ := aK (hbox); have n2_ := aK ((by rw [hg]; exact (below_size (by repeat (first | (with_reducible first | exact HB.out | apply hA | apply hN | apply hD) | exact HB.out))) : w.heap.size ≤ gb216)); have n3_ := aK ((by rw [hg]; exact (below_size (by repeat (first | (with_reducible first | exact HB.out | apply hA | apply hN | apply hD) | exact HB.out))) : w.heap.size ≤ gb216)); clear HB; have HB := n0_; have BK216 := n1_; have GW216 := n2_; have GE216 := n3_; clear n0_ n1_ n2_ n3_; clear hb hbox hg) | ((with_reducible refine gate_dst (N := 3) rfl ?_); refine box_event ?hg (N := 3) ?hd (cs := #[.int .i64 a1_0, .int .i64 a1_1]) (t := 25) ?hr ?_; (case hd => rfl); (case hg => rfl); (case hr => first | (go_simp; done) | (go_simp; rfl)); intro gb217 hg w22 hbox hb; have n0_ := aK (blk_below (g := gb216) (o := .cells #[.int .i64 a0_0, .int .i64 a0_1] 25 (0, 0)) (by (with_reducible repeat (first | refine bR ?_ | refine bA ?_ _)); exact BK216.out) hb); have n1_ := aK (below_step (by repeat (first | (with_reducible first | exact HB.out | apply hA | apply hN | apply hD | refine below_set ?_ GE216.out) | exact HB.out)) hb); have n2_ := aK (hbox); have n3_ := aK ((by rw [hg]; exact (below_size (by repeat (first | (with_reducible first | exact HB.out | apply hA | apply hN | apply hD | refine below_set ?_ GE216.out) | exact HB.out))) : w.heap.size ≤ gb217)); have n4_ := aK ((by rw [hg]; exact (below_size (by repeat (first | (with_reducible first | exact HB.out | apply hA | apply hN | apply hD | refine below_set ?_ GE216.out) | exact HB.out))) : w.heap.size ≤ gb217)); have n5_ := aK ((by rw [hg]; exact Nat.ne_of_lt (blk_lt (g := gb216) (o := .cells #[.int .i64 a0_0, .int .i64 a0_1] 25 (0, 0)) (by (with_reducible repeat (first | refine bR ?_ | refine bA ?_ _)); exact BK216.out)) : gb216 ≠ gb217)); have n6_ := aK ((by rw [hg]; exact Nat.ne_of_gt (blk_lt (g := gb216) (o := .cells #[.int .i64 a0_0, .int .i64 a0_1] 25 (0, 0)) (by (with_reducible repeat (first | refine bR ?_ | refine bA ?_ _)); exact BK216.out)) : gb217 ≠ gb216)); clear BK216; clear HB; have BK216 := n0_; have HB := n1_; have BK217 := n2_; have GW217 := n3_; have GE217 := n4_; have NB216_217 := n5_; have NB217_216 := n6_; clear n0_ n1_ n2_ n3_ n4_ n5_ n6_; clear hb hbox hg))
     have n0_ := aK (blk_drew BK216.out)
     have n1_ := aK (blk_drew BK217.out)
     have n2_ := aK (below_drew1 HB.out)
     clear BK216
     clear BK217
     clear HB
     have BK216 := n0_
     have BK217 := n1_
     have HB := n2_
     clear n0_ n1_ n2_
     refine start_ (n := 6) (S := fun w' => w'.cell? ⟨gb216, 0, none⟩ = some (.int .i64 a0_0) ∧ w'.cell? ⟨gb216, 1, none⟩ = some (.int .i64 a0_1) ∧ w'.cell? ⟨gb217, 0, none⟩ = some (.int .i64 a1_0) ∧ w'.cell? ⟨gb217, 1, none⟩ = some (.int .i64 a1_1)) (ds := [4, 5]) #[Z,Z,Z,Z,Z,Z] (by kernel_rfl) rfl rfl ⟨(blk_cell BK216.out 0).trans rfl, (blk_cell BK216.out 1).trans rfl, (blk_cell BK217.out 0).trans rfl, (blk_cell BK217.out 1).trans rfl⟩ (fun hHeld => ?_)
     generalize w22.drew = w23 at BK216 BK217 HB hHeld ⊢
     refine take_ (i := 0) (N := some 5) (v := ?_) (a' := ?_) #[Y,Z,Z,Z,Z,Z] rfl rfl (by kernel_rfl) (fun _ _ _ h => h) (Or.inl ⟨by rfl, ?_⟩) hHeld ?_ ?_
     rotate_left
     · rintro w' ⟨s0, s1, s2, s3⟩
       go_simp
       with_reducible rfl
     rotate_left
     · simp only [Act.put, sA, sB, sC, i64_w, i32_w]
       rfl
     refine take_ (i := 2) (N := some 7) (v := ?_) (a' := ?_) #[Y,Z,Y,Z,Z,Z] rfl rfl (by kernel_rfl) (fun _ _ _ h => h) (Or.inl ⟨by rfl, ?_⟩) hHeld ?_ ?_
     rotate_left
     · rintro w' ⟨s0, s1, s2, s3⟩
       go_simp
       with_reducible rfl
     rotate_left
     · simp only [Act.put, sA, sB, sC, i64_w, i32_w]
       rfl
     refine one_ (i := 1) (N := some 6) #[Y,Y,Y,Z,Z,Z] rfl rfl (by kernel_rfl) (by decide) (fun K hK => ?_)
     refine goes_ Tryd.func24 (by kernel_rfl) rfl #[.agg #[.int .i64 a0_0, .int .i64 a0_1]] (by rfl) rfl rfl (by (try simp only [mA, mB, mC]); first | done | rfl) ?_
     with_reducible refine (congruence_Fix.calls a0_0 a0_1 t218 t219 _ A3.out).mono ?_
     rintro e w24 ⟨rfl, hb⟩
     refine ⟨_, rfl, ?_⟩
     have n0_ := aK (blk_below (g := gb216) (o := .cells #[.int .i64 a0_0, .int .i64 a0_1] 25 (0, 0)) (by (with_reducible repeat (first | refine bR ?_ | refine bA ?_ _)); exact BK216.out) hb)
     have n1_ := aK (blk_below (g := gb217) (o := .cells #[.int .i64 a1_0, .int .i64 a1_1] 25 (0, 0)) (by (with_reducible repeat (first | refine bR ?_ | refine bA ?_ _)); exact BK217.out) hb)
     have n2_ := aK (below_step (by repeat (first | (with_reducible first | exact HB.out | apply hA | apply hN | apply hD | refine below_set ?_ GE216.out | refine below_set ?_ GE217.out) | exact HB.out)) hb)
     clear BK216
     clear BK217
     clear HB
     have BK216 := n0_
     have BK217 := n1_
     have HB := n2_
     clear n0_ n1_ n2_
     (try clear hb)
     (try clear hb2)
     (try clear hk)
     (try clear hi)
     refine hK.out _ _ ⟨(blk_cell BK216.out 0).trans rfl, (blk_cell BK216.out 1).trans rfl, (blk_cell BK217.out 0).trans rfl, (blk_cell BK217.out 1).trans rfl⟩ (fun hHeld => ?_)
     clear hK K
     refine norm_ (a' := ?_) ?_ ?_
     rotate_left
     · show Act.put _ (some 6) _ = _
       simp only [Act.put, sA, sB, sC, i64_w, i32_w]
       rfl
     refine one_ (i := 3) (N := some 8) #[Y,Y,Y,Y,Z,Z] rfl rfl (by kernel_rfl) (by decide) (fun K hK => ?_)
     refine goes_ Tryd.func24 (by kernel_rfl) rfl #[.agg #[.int .i64 a1_0, .int .i64 a1_1]] (by rfl) rfl rfl (by (try simp only [mA, mB, mC]); first | done | rfl) ?_
     with_reducible refine (congruence_Fix.calls a1_0 a1_1 t220 t221 _ A4.out).mono ?_
     rintro e w25 ⟨rfl, hb⟩
     refine ⟨_, rfl, ?_⟩
     have n0_ := aK (blk_below (g := gb216) (o := .cells #[.int .i64 a0_0, .int .i64 a0_1] 25 (0, 0)) (by (with_reducible repeat (first | refine bR ?_ | refine bA ?_ _)); exact BK216.out) hb)
     have n1_ := aK (blk_below (g := gb217) (o := .cells #[.int .i64 a1_0, .int .i64 a1_1] 25 (0, 0)) (by (with_reducible repeat (first | refine bR ?_ | refine bA ?_ _)); exact BK217.out) hb)
     have n2_ := aK (below_step (by repeat (first | (with_reducible first | exact HB.out | apply hA | apply hN | apply hD | refine below_set ?_ GE216.out | refine below_set ?_ GE217.out) | exact HB.out)) hb)
     clear BK216
     clear BK217
     clear HB
     have BK216 := n0_
     have BK217 := n1_
     have HB := n2_
     clear n0_ n1_ n2_
     (try clear hb)
     (try clear hb2)
     (try clear hk)
     (try clear hi)
     refine hK.out _ _ ⟨(blk_cell BK216.out 0).trans rfl, (blk_cell BK216.out 1).trans rfl, (blk_cell BK217.out 0).trans rfl, (blk_cell BK217.out 1).trans rfl⟩ (fun hHeld => ?_)
     clear hK K
     refine norm_ (a' := ?_) ?_ ?_
     rotate_left
     · show Act.put _ (some 8) _ = _
       simp only [Act.put, sA, sB, sC, i64_w, i32_w]
       rfl
     refine last_ (i := 4) (N := none) #[Y,Y,Y,Y,Y,Z] rfl rfl (by kernel_rfl) (by decide) (fun K hK => ?_)
     have hs26 : w25.cell? ⟨gb216, 0, none⟩ = some (.int .i64 a0_0) := (blk_cell BK216.out 0).trans rfl
     have hfs26 := blk_frozen BK216.out 0
     have hns26_1 := NB217_216.out
     have hms26_1 := NB216_217.out
     have hs27 : w25.cell? ⟨gb216, 1, none⟩ = some (.int .i64 a0_1) := (blk_cell BK216.out 1).trans rfl
     have hfs27 := blk_frozen BK216.out 1
     have hns27_1 := NB217_216.out
     have hms27_1 := NB216_217.out
     refine skip_ (w1 := ?_) (by rfl) rfl ?_ ?_
     rotate_left
     · go_simp
       rfl
     refine hK.out _ _ ?_
     clear hK K
     refine last_ (i := 5) (N := none) #[Y,Y,Y,Y,Y,Y] rfl rfl (by kernel_rfl) (by decide) (fun K hK => ?_)
     have hs28 : w25.cell? ⟨gb217, 0, none⟩ = some (.int .i64 a1_0) := (blk_cell BK217.out 0).trans rfl
     have hfs28 := blk_frozen BK217.out 0
     have hns28_0 := NB216_217.out
     have hms28_0 := NB217_216.out
     have hs29 : w25.cell? ⟨gb217, 1, none⟩ = some (.int .i64 a1_1) := (blk_cell BK217.out 1).trans rfl
     have hfs29 := blk_frozen BK217.out 1
     have hns29_0 := NB216_217.out
     have hms29_0 := NB217_216.out
     refine skip_ (w1 := ?_) (by rfl) rfl ?_ ?_
     rotate_left
     · go_simp
       rfl
     refine hK.out _ _ ?_
     clear hK K
     refine done_ (by kernel_rfl) ?_
     try go_wp2
     have n0_ : Aside0 (((((w25.setCell ⟨gb216, 0, none⟩ (.int .i64 t218)).setCell ⟨gb216, 1, none⟩ (.int .i64 t219)).setCell ⟨gb217, 0, none⟩ (.int .i64 t220)).setCell ⟨gb217, 1, none⟩ (.int .i64 t221)).heap[gb216]? = some (.cells #[.int .i64 t218, .int .i64 t219] 25 (0, 0))) := ⟨by (with_reducible repeat (first | refine bR ?_ | refine bA ?_ _)); refine blk_far ?_ NB216_217.out _; (with_reducible repeat (first | refine bR ?_ | refine bA ?_ _)); refine blk_far ?_ NB216_217.out _; (with_reducible repeat (first | refine bR ?_ | refine bA ?_ _)); refine blk_put (cs := #[.int .i64 t218, .int .i64 a0_1]) ?_ 1 _ rfl; (with_reducible repeat (first | refine bR ?_ | refine bA ?_ _)); refine blk_put (cs := #[.int .i64 a0_0, .int .i64 a0_1]) ?_ 0 _ rfl; (with_reducible repeat (first | refine bR ?_ | refine bA ?_ _)); exact BK216.out⟩
     have n1_ : Aside0 (((((w25.setCell ⟨gb216, 0, none⟩ (.int .i64 t218)).setCell ⟨gb216, 1, none⟩ (.int .i64 t219)).setCell ⟨gb217, 0, none⟩ (.int .i64 t220)).setCell ⟨gb217, 1, none⟩ (.int .i64 t221)).heap[gb217]? = some (.cells #[.int .i64 t220, .int .i64 t221] 25 (0, 0))) := ⟨by (with_reducible repeat (first | refine bR ?_ | refine bA ?_ _)); refine blk_put (cs := #[.int .i64 t220, .int .i64 a1_1]) ?_ 1 _ rfl; (with_reducible repeat (first | refine bR ?_ | refine bA ?_ _)); refine blk_put (cs := #[.int .i64 a1_0, .int .i64 a1_1]) ?_ 0 _ rfl; (with_reducible repeat (first | refine bR ?_ | refine bA ?_ _)); refine blk_far ?_ NB217_216.out _; (with_reducible repeat (first | refine bR ?_ | refine bA ?_ _)); refine blk_far ?_ NB217_216.out _; (with_reducible repeat (first | refine bR ?_ | refine bA ?_ _)); exact BK217.out⟩
     have n2_ : Aside0 (Below w.heap.size w ((((w25.setCell ⟨gb216, 0, none⟩ (.int .i64 t218)).setCell ⟨gb216, 1, none⟩ (.int .i64 t219)).setCell ⟨gb217, 0, none⟩ (.int .i64 t220)).setCell ⟨gb217, 1, none⟩ (.int .i64 t221))) := ⟨by repeat (first | (with_reducible first | exact HB.out | apply hA | apply hN | apply hD | refine below_set ?_ GE216.out | refine below_set ?_ GE217.out) | exact HB.out)⟩
     (try clear BK216)
     (try clear BK217)
     (try clear HB)
     generalize ((((w25.setCell ⟨gb216, 0, none⟩ (.int .i64 t218)).setCell ⟨gb216, 1, none⟩ (.int .i64 t219)).setCell ⟨gb217, 0, none⟩ (.int .i64 t220)).setCell ⟨gb217, 1, none⟩ (.int .i64 t221)) = w30 at n0_ n1_ n2_ ⊢
     have BK216 := n0_
     have BK217 := n1_
     have HB := n2_
     clear n0_ n1_ n2_
     have n0_ := aK (blk_drew BK216.out)
     have n1_ := aK (blk_drew BK217.out)
     have n2_ := aK (below_drew1 HB.out)
     clear BK216
     clear BK217
     clear HB
     have BK216 := n0_
     have BK217 := n1_
     have HB := n2_
     clear n0_ n1_ n2_
     refine start_ (n := 4) (S := fun w' => w'.cell? ⟨gb216, 0, none⟩ = some (.int .i64 t218) ∧ w'.cell? ⟨gb216, 1, none⟩ = some (.int .i64 t219)) (ds := []) #[Z,Z,Z,Z] (by kernel_rfl) rfl rfl ⟨(blk_cell BK216.out 0).trans rfl, (blk_cell BK216.out 1).trans rfl⟩ (fun hHeld => ?_)
     generalize w30.drew = w31 at BK216 BK217 HB hHeld ⊢
     refine take_ (i := 0) (N := some 10) (v := ?_) (a' := ?_) #[Y,Z,Z,Z] rfl rfl (by kernel_rfl) (fun _ _ _ h => h) (Or.inl ⟨by rfl, ?_⟩) hHeld ?_ ?_
     rotate_left
     · rintro w' ⟨s0, s1⟩
       go_simp
       with_reducible rfl
     rotate_left
     · simp only [Act.put, sA, sB, sC, i64_w, i32_w]
       rfl
     refine one_ (i := 1) (N := some 11) #[Y,Y,Z,Z] rfl rfl (by kernel_rfl) (by decide) (fun K hK => ?_)
     refine goes_ Tryd.func9 (by kernel_rfl) rfl #[] (by rfl) rfl rfl (by (try simp only [mA, mB, mC]); first | done | rfl) ?_
     with_reducible refine (congruence_None.calls  t222 t223 _ A5.out).mono ?_
     rintro e w32 ⟨rfl, hb⟩
     refine ⟨_, rfl, ?_⟩
     have n0_ := aK (blk_below (g := gb216) (o := .cells #[.int .i64 t218, .int .i64 t219] 25 (0, 0)) (by (with_reducible repeat (first | refine bR ?_ | refine bA ?_ _)); exact BK216.out) hb)
     have n1_ := aK (blk_below (g := gb217) (o := .cells #[.int .i64 t220, .int .i64 t221] 25 (0, 0)) (by (with_reducible repeat (first | refine bR ?_ | refine bA ?_ _)); exact BK217.out) hb)
     have n2_ := aK (below_step (by repeat (first | (with_reducible first | exact HB.out | apply hA | apply hN | apply hD | refine below_set ?_ GE216.out | refine below_set ?_ GE217.out) | exact HB.out)) hb)
     clear BK216
     clear BK217
     clear HB
     have BK216 := n0_
     have BK217 := n1_
     have HB := n2_
     clear n0_ n1_ n2_
     (try clear hb)
     (try clear hb2)
     (try clear hk)
     (try clear hi)
     refine hK.out _ _ ⟨(blk_cell BK216.out 0).trans rfl, (blk_cell BK216.out 1).trans rfl⟩ (fun hHeld => ?_)
     clear hK K
     refine norm_ (a' := ?_) ?_ ?_
     rotate_left
     · show Act.put _ (some 11) _ = _
       simp only [Act.put, sA, sB, sC, i64_w, i32_w]
       rfl
     refine pure_ (i := 2) (N := some 12) (v := ?_) (a' := ?_) #[Y,Y,Y,Z] rfl rfl (by kernel_rfl) (fun _ _ _ h => h) (Or.inl ⟨by rfl, ?_⟩) ?_ ?_
     rotate_left
     · intro w'
       go_simp
       with_reducible rfl
     rotate_left
     · simp only [Act.put, sA, sB, sC, i64_w, i32_w]
       rfl
     refine pure_ (i := 3) (N := some 9) (v := ?_) (a' := ?_) #[Y,Y,Y,Y] rfl rfl (by kernel_rfl) (fun _ _ _ h => h) (Or.inl ⟨by rfl, ?_⟩) ?_ ?_
     rotate_left
     · intro w'
       go_simp
       with_reducible rfl
     rotate_left
     · simp only [Act.put, sA, sB, sC, i64_w, i32_w]
       rfl
     refine done_ (by kernel_rfl) ?_
     have hnb33 := NB216_217.out
     have hnc33 := NB217_216.out
     have hcz34_0 : w32.cell? ⟨gb216, 0, none⟩ = some (.int .i64 t218) := (blk_cell BK216.out 0).trans rfl
     have hcz34_1 : w32.cell? ⟨gb216, 1, none⟩ = some (.int .i64 t219) := (blk_cell BK216.out 1).trans rfl
     have hfz34_0 := blk_frozen BK216.out 0
     have hfz34_1 := blk_frozen BK216.out 1
     have hcz35_0 : w32.cell? ⟨gb217, 0, none⟩ = some (.int .i64 t220) := (blk_cell BK217.out 0).trans rfl
     have hcz35_1 : w32.cell? ⟨gb217, 1, none⟩ = some (.int .i64 t221) := (blk_cell BK217.out 1).trans rfl
     have hfz35_0 := blk_frozen BK217.out 0
     have hfz35_1 := blk_frozen BK217.out 1
     try go_wp2_with (first | ((with_reducible refine gate_callee (f := 14) rfl ?_); refine goesL_ (some 20) rfl rfl Tryd.func14 (by kernel_rfl) rfl #[.agg #[.int .i64 t220, .int .i64 t221], .int .i64 t219] rfl (by (try simp only [mA, mB, mC]); first | done | rfl) ?_; (with_reducible refine (congruence_Has.calls k t220 t221 t219 t224 _ A20.out).mono ?_); rintro e w36 ⟨rfl, hb⟩; refine ⟨_, rfl, ?_⟩; have n0_ := aK (blk_below (g := gb216) (o := .cells #[.int .i64 t218, .int .i64 t219] 25 (0, 0)) (by (with_reducible repeat (first | refine bR ?_ | refine bA ?_ _)); exact BK216.out) hb); have n1_ := aK (blk_below (g := gb217) (o := .cells #[.int .i64 t220, .int .i64 t221] 25 (0, 0)) (by (with_reducible repeat (first | refine bR ?_ | refine bA ?_ _)); exact BK217.out) hb); have n2_ := aK (below_step (by repeat (first | (with_reducible first | exact HB.out | apply hA | apply hN | apply hD | refine below_set ?_ GE216.out | refine below_set ?_ GE217.out) | exact HB.out)) hb); clear BK216; clear BK217; clear HB; have BK216 := n0_; have BK217 := n1_; have HB := n2_; clear n0_ n1_ n2_; (try clear hb); (try clear hb2); (try clear hk); (try clear hi)))
     go_ret
     exact ⟨by first | rfl | (simp [errW_none, errW_some] <;> rfl) | (simp [*, errW_none, errW_some] <;> rfl), by repeat (first | (with_reducible first | exact HB.out | apply hA | apply hN | apply hD | refine below_set ?_ GE216.out | refine below_set ?_ GE217.out) | exact HB.out)⟩
   · rw [if_neg c19] at H
     have c19b0 : (t218 == 0) = false := beq_eq_false_iff_ne.mpr c19
     have c19b1 : (t218 != 0) = true := bne_iff_ne.mpr c19
     by_cases c37 : t220 ≥ 1
     · rw [if_pos c37] at H
       have c37b0 : decide (1 ≤ t220) = true := decide_eq_true c37
       clear c37
       by_cases c38 : t220 ≤ t218
       · rw [if_pos c38] at H
         have c38b0 : decide (t220 ≤ t218) = true := decide_eq_true c38
         clear c38
         by_cases c39 : t220 = 0
         · rw [if_pos c39] at H
           exact absurd H (by simp)
         · rw [if_neg c39] at H
           have c39b0 : (t220 == 0) = false := beq_eq_false_iff_ne.mpr c39
           have c39b1 : (t220 != 0) = true := bne_iff_ne.mpr c39
           obtain rfl := Option.some.inj H
           go_enter Tryd.func17, Tryd.ntmps17
           try go_wp2_with (first | ((with_reducible refine gate_dst (N := 2) rfl ?_); refine box_event ?hg (N := 2) ?hd (cs := #[.int .i64 a0_0, .int .i64 a0_1]) (t := 25) ?hr ?_; (case hd => rfl); (case hg => rfl); (case hr => first | (go_simp; done) | (go_simp; rfl)); intro gb216 hg w40 hbox hb; have n0_ := aK (below_step (by repeat (first | (with_reducible first | exact HB.out | apply hA | apply hN | apply hD) | exact HB.out)) hb); have n1_ := aK (hbox); have n2_ := aK ((by rw [hg]; exact (below_size (by repeat (first | (with_reducible first | exact HB.out | apply hA | apply hN | apply hD) | exact HB.out))) : w.heap.size ≤ gb216)); have n3_ := aK ((by rw [hg]; exact (below_size (by repeat (first | (with_reducible first | exact HB.out | apply hA | apply hN | apply hD) | exact HB.out))) : w.heap.size ≤ gb216)); clear HB; have HB := n0_; have BK216 := n1_; have GW216 := n2_; have GE216 := n3_; clear n0_ n1_ n2_ n3_; clear hb hbox hg) | ((with_reducible refine gate_dst (N := 3) rfl ?_); refine box_event ?hg (N := 3) ?hd (cs := #[.int .i64 a1_0, .int .i64 a1_1]) (t := 25) ?hr ?_; (case hd => rfl); (case hg => rfl); (case hr => first | (go_simp; done) | (go_simp; rfl)); intro gb217 hg w41 hbox hb; have n0_ := aK (blk_below (g := gb216) (o := .cells #[.int .i64 a0_0, .int .i64 a0_1] 25 (0, 0)) (by (with_reducible repeat (first | refine bR ?_ | refine bA ?_ _)); exact BK216.out) hb); have n1_ := aK (below_step (by repeat (first | (with_reducible first | exact HB.out | apply hA | apply hN | apply hD | refine below_set ?_ GE216.out) | exact HB.out)) hb); have n2_ := aK (hbox); have n3_ := aK ((by rw [hg]; exact (below_size (by repeat (first | (with_reducible first | exact HB.out | apply hA | apply hN | apply hD | refine below_set ?_ GE216.out) | exact HB.out))) : w.heap.size ≤ gb217)); have n4_ := aK ((by rw [hg]; exact (below_size (by repeat (first | (with_reducible first | exact HB.out | apply hA | apply hN | apply hD | refine below_set ?_ GE216.out) | exact HB.out))) : w.heap.size ≤ gb217)); have n5_ := aK ((by rw [hg]; exact Nat.ne_of_lt (blk_lt (g := gb216) (o := .cells #[.int .i64 a0_0, .int .i64 a0_1] 25 (0, 0)) (by (with_reducible repeat (first | refine bR ?_ | refine bA ?_ _)); exact BK216.out)) : gb216 ≠ gb217)); have n6_ := aK ((by rw [hg]; exact Nat.ne_of_gt (blk_lt (g := gb216) (o := .cells #[.int .i64 a0_0, .int .i64 a0_1] 25 (0, 0)) (by (with_reducible repeat (first | refine bR ?_ | refine bA ?_ _)); exact BK216.out)) : gb217 ≠ gb216)); clear BK216; clear HB; have BK216 := n0_; have HB := n1_; have BK217 := n2_; have GW217 := n3_; have GE217 := n4_; have NB216_217 := n5_; have NB217_216 := n6_; clear n0_ n1_ n2_ n3_ n4_ n5_ n6_; clear hb hbox hg))
           have n0_ := aK (blk_drew BK216.out)
           have n1_ := aK (blk_drew BK217.out)
           have n2_ := aK (below_drew1 HB.out)
           clear BK216
           clear BK217
           clear HB
           have BK216 := n0_
           have BK217 := n1_
           have HB := n2_
           clear n0_ n1_ n2_
           refine start_ (n := 6) (S := fun w' => w'.cell? ⟨gb216, 0, none⟩ = some (.int .i64 a0_0) ∧ w'.cell? ⟨gb216, 1, none⟩ = some (.int .i64 a0_1) ∧ w'.cell? ⟨gb217, 0, none⟩ = some (.int .i64 a1_0) ∧ w'.cell? ⟨gb217, 1, none⟩ = some (.int .i64 a1_1)) (ds := [4, 5]) #[Z,Z,Z,Z,Z,Z] (by kernel_rfl) rfl rfl ⟨(blk_cell BK216.out 0).trans rfl, (blk_cell BK216.out 1).trans rfl, (blk_cell BK217.out 0).trans rfl, (blk_cell BK217.out 1).trans rfl⟩ (fun hHeld => ?_)
           generalize w41.drew = w42 at BK216 BK217 HB hHeld ⊢
           refine take_ (i := 0) (N := some 5) (v := ?_) (a' := ?_) #[Y,Z,Z,Z,Z,Z] rfl rfl (by kernel_rfl) (fun _ _ _ h => h) (Or.inl ⟨by rfl, ?_⟩) hHeld ?_ ?_
           rotate_left
           · rintro w' ⟨s0, s1, s2, s3⟩
             go_simp
             with_reducible rfl
           rotate_left
           · simp only [Act.put, sA, sB, sC, i64_w, i32_w]
             rfl
           refine take_ (i := 2) (N := some 7) (v := ?_) (a' := ?_) #[Y,Z,Y,Z,Z,Z] rfl rfl (by kernel_rfl) (fun _ _ _ h => h) (Or.inl ⟨by rfl, ?_⟩) hHeld ?_ ?_
           rotate_left
           · rintro w' ⟨s0, s1, s2, s3⟩
             go_simp
             with_reducible rfl
           rotate_left
           · simp only [Act.put, sA, sB, sC, i64_w, i32_w]
             rfl
           refine one_ (i := 1) (N := some 6) #[Y,Y,Y,Z,Z,Z] rfl rfl (by kernel_rfl) (by decide) (fun K hK => ?_)
           refine goes_ Tryd.func24 (by kernel_rfl) rfl #[.agg #[.int .i64 a0_0, .int .i64 a0_1]] (by rfl) rfl rfl (by (try simp only [mA, mB, mC]); first | done | rfl) ?_
           with_reducible refine (congruence_Fix.calls a0_0 a0_1 t218 t219 _ A3.out).mono ?_
           rintro e w43 ⟨rfl, hb⟩
           refine ⟨_, rfl, ?_⟩
           have n0_ := aK (blk_below (g := gb216) (o := .cells #[.int .i64 a0_0, .int .i64 a0_1] 25 (0, 0)) (by (with_reducible repeat (first | refine bR ?_ | refine bA ?_ _)); exact BK216.out) hb)
           have n1_ := aK (blk_below (g := gb217) (o := .cells #[.int .i64 a1_0, .int .i64 a1_1] 25 (0, 0)) (by (with_reducible repeat (first | refine bR ?_ | refine bA ?_ _)); exact BK217.out) hb)
           have n2_ := aK (below_step (by repeat (first | (with_reducible first | exact HB.out | apply hA | apply hN | apply hD | refine below_set ?_ GE216.out | refine below_set ?_ GE217.out) | exact HB.out)) hb)
           clear BK216
           clear BK217
           clear HB
           have BK216 := n0_
           have BK217 := n1_
           have HB := n2_
           clear n0_ n1_ n2_
           (try clear hb)
           (try clear hb2)
           (try clear hk)
           (try clear hi)
           refine hK.out _ _ ⟨(blk_cell BK216.out 0).trans rfl, (blk_cell BK216.out 1).trans rfl, (blk_cell BK217.out 0).trans rfl, (blk_cell BK217.out 1).trans rfl⟩ (fun hHeld => ?_)
           clear hK K
           refine norm_ (a' := ?_) ?_ ?_
           rotate_left
           · show Act.put _ (some 6) _ = _
             simp only [Act.put, sA, sB, sC, i64_w, i32_w]
             rfl
           refine one_ (i := 3) (N := some 8) #[Y,Y,Y,Y,Z,Z] rfl rfl (by kernel_rfl) (by decide) (fun K hK => ?_)
           refine goes_ Tryd.func24 (by kernel_rfl) rfl #[.agg #[.int .i64 a1_0, .int .i64 a1_1]] (by rfl) rfl rfl (by (try simp only [mA, mB, mC]); first | done | rfl) ?_
           with_reducible refine (congruence_Fix.calls a1_0 a1_1 t220 t221 _ A4.out).mono ?_
           rintro e w44 ⟨rfl, hb⟩
           refine ⟨_, rfl, ?_⟩
           have n0_ := aK (blk_below (g := gb216) (o := .cells #[.int .i64 a0_0, .int .i64 a0_1] 25 (0, 0)) (by (with_reducible repeat (first | refine bR ?_ | refine bA ?_ _)); exact BK216.out) hb)
           have n1_ := aK (blk_below (g := gb217) (o := .cells #[.int .i64 a1_0, .int .i64 a1_1] 25 (0, 0)) (by (with_reducible repeat (first | refine bR ?_ | refine bA ?_ _)); exact BK217.out) hb)
           have n2_ := aK (below_step (by repeat (first | (with_reducible first | exact HB.out | apply hA | apply hN | apply hD | refine below_set ?_ GE216.out | refine below_set ?_ GE217.out) | exact HB.out)) hb)
           clear BK216
           clear BK217
           clear HB
           have BK216 := n0_
           have BK217 := n1_
           have HB := n2_
           clear n0_ n1_ n2_
           (try clear hb)
           (try clear hb2)
           (try clear hk)
           (try clear hi)
           refine hK.out _ _ ⟨(blk_cell BK216.out 0).trans rfl, (blk_cell BK216.out 1).trans rfl, (blk_cell BK217.out 0).trans rfl, (blk_cell BK217.out 1).trans rfl⟩ (fun hHeld => ?_)
           clear hK K
           refine norm_ (a' := ?_) ?_ ?_
           rotate_left
           · show Act.put _ (some 8) _ = _
             simp only [Act.put, sA, sB, sC, i64_w, i32_w]
             rfl
           refine last_ (i := 4) (N := none) #[Y,Y,Y,Y,Y,Z] rfl rfl (by kernel_rfl) (by decide) (fun K hK => ?_)
           have hs45 : w44.cell? ⟨gb216, 0, none⟩ = some (.int .i64 a0_0) := (blk_cell BK216.out 0).trans rfl
           have hfs45 := blk_frozen BK216.out 0
           have hns45_1 := NB217_216.out
           have hms45_1 := NB216_217.out
           have hs46 : w44.cell? ⟨gb216, 1, none⟩ = some (.int .i64 a0_1) := (blk_cell BK216.out 1).trans rfl
           have hfs46 := blk_frozen BK216.out 1
           have hns46_1 := NB217_216.out
           have hms46_1 := NB216_217.out
           refine skip_ (w1 := ?_) (by rfl) rfl ?_ ?_
           rotate_left
           · go_simp
             rfl
           refine hK.out _ _ ?_
           clear hK K
           refine last_ (i := 5) (N := none) #[Y,Y,Y,Y,Y,Y] rfl rfl (by kernel_rfl) (by decide) (fun K hK => ?_)
           have hs47 : w44.cell? ⟨gb217, 0, none⟩ = some (.int .i64 a1_0) := (blk_cell BK217.out 0).trans rfl
           have hfs47 := blk_frozen BK217.out 0
           have hns47_0 := NB216_217.out
           have hms47_0 := NB217_216.out
           have hs48 : w44.cell? ⟨gb217, 1, none⟩ = some (.int .i64 a1_1) := (blk_cell BK217.out 1).trans rfl
           have hfs48 := blk_frozen BK217.out 1
           have hns48_0 := NB216_217.out
           have hms48_0 := NB217_216.out
           refine skip_ (w1 := ?_) (by rfl) rfl ?_ ?_
           rotate_left
           · go_simp
             rfl
           refine hK.out _ _ ?_
           clear hK K
           refine done_ (by kernel_rfl) ?_
           try go_wp2
           have n0_ : Aside0 (((((w44.setCell ⟨gb216, 0, none⟩ (.int .i64 t218)).setCell ⟨gb216, 1, none⟩ (.int .i64 t219)).setCell ⟨gb217, 0, none⟩ (.int .i64 t220)).setCell ⟨gb217, 1, none⟩ (.int .i64 t221)).heap[gb216]? = some (.cells #[.int .i64 t218, .int .i64 t219] 25 (0, 0))) := ⟨by (with_reducible repeat (first | refine bR ?_ | refine bA ?_ _)); refine blk_far ?_ NB216_217.out _; (with_reducible repeat (first | refine bR ?_ | refine bA ?_ _)); refine blk_far ?_ NB216_217.out _; (with_reducible repeat (first | refine bR ?_ | refine bA ?_ _)); refine blk_put (cs := #[.int .i64 t218, .int .i64 a0_1]) ?_ 1 _ rfl; (with_reducible repeat (first | refine bR ?_ | refine bA ?_ _)); refine blk_put (cs := #[.int .i64 a0_0, .int .i64 a0_1]) ?_ 0 _ rfl; (with_reducible repeat (first | refine bR ?_ | refine bA ?_ _)); exact BK216.out⟩
           have n1_ : Aside0 (((((w44.setCell ⟨gb216, 0, none⟩ (.int .i64 t218)).setCell ⟨gb216, 1, none⟩ (.int .i64 t219)).setCell ⟨gb217, 0, none⟩ (.int .i64 t220)).setCell ⟨gb217, 1, none⟩ (.int .i64 t221)).heap[gb217]? = some (.cells #[.int .i64 t220, .int .i64 t221] 25 (0, 0))) := ⟨by (with_reducible repeat (first | refine bR ?_ | refine bA ?_ _)); refine blk_put (cs := #[.int .i64 t220, .int .i64 a1_1]) ?_ 1 _ rfl; (with_reducible repeat (first | refine bR ?_ | refine bA ?_ _)); refine blk_put (cs := #[.int .i64 a1_0, .int .i64 a1_1]) ?_ 0 _ rfl; (with_reducible repeat (first | refine bR ?_ | refine bA ?_ _)); refine blk_far ?_ NB217_216.out _; (with_reducible repeat (first | refine bR ?_ | refine bA ?_ _)); refine blk_far ?_ NB217_216.out _; (with_reducible repeat (first | refine bR ?_ | refine bA ?_ _)); exact BK217.out⟩
           have n2_ : Aside0 (Below w.heap.size w ((((w44.setCell ⟨gb216, 0, none⟩ (.int .i64 t218)).setCell ⟨gb216, 1, none⟩ (.int .i64 t219)).setCell ⟨gb217, 0, none⟩ (.int .i64 t220)).setCell ⟨gb217, 1, none⟩ (.int .i64 t221))) := ⟨by repeat (first | (with_reducible first | exact HB.out | apply hA | apply hN | apply hD | refine below_set ?_ GE216.out | refine below_set ?_ GE217.out) | exact HB.out)⟩
           (try clear BK216)
           (try clear BK217)
           (try clear HB)
           generalize ((((w44.setCell ⟨gb216, 0, none⟩ (.int .i64 t218)).setCell ⟨gb216, 1, none⟩ (.int .i64 t219)).setCell ⟨gb217, 0, none⟩ (.int .i64 t220)).setCell ⟨gb217, 1, none⟩ (.int .i64 t221)) = w49 at n0_ n1_ n2_ ⊢
           have BK216 := n0_
           have BK217 := n1_
           have HB := n2_
           clear n0_ n1_ n2_
           have n0_ := aK (blk_drew BK216.out)
           have n1_ := aK (blk_drew BK217.out)
           have n2_ := aK (below_drew1 HB.out)
           clear BK216
           clear BK217
           clear HB
           have BK216 := n0_
           have BK217 := n1_
           have HB := n2_
           clear n0_ n1_ n2_
           refine start_ (n := 4) (S := fun w' => w'.cell? ⟨gb216, 0, none⟩ = some (.int .i64 t218) ∧ w'.cell? ⟨gb216, 1, none⟩ = some (.int .i64 t219)) (ds := []) #[Z,Z,Z,Z] (by kernel_rfl) rfl rfl ⟨(blk_cell BK216.out 0).trans rfl, (blk_cell BK216.out 1).trans rfl⟩ (fun hHeld => ?_)
           generalize w49.drew = w50 at BK216 BK217 HB hHeld ⊢
           refine take_ (i := 0) (N := some 10) (v := ?_) (a' := ?_) #[Y,Z,Z,Z] rfl rfl (by kernel_rfl) (fun _ _ _ h => h) (Or.inl ⟨by rfl, ?_⟩) hHeld ?_ ?_
           rotate_left
           · rintro w' ⟨s0, s1⟩
             go_simp
             with_reducible rfl
           rotate_left
           · simp only [Act.put, sA, sB, sC, i64_w, i32_w]
             rfl
           refine one_ (i := 1) (N := some 11) #[Y,Y,Z,Z] rfl rfl (by kernel_rfl) (by decide) (fun K hK => ?_)
           refine goes_ Tryd.func9 (by kernel_rfl) rfl #[] (by rfl) rfl rfl (by (try simp only [mA, mB, mC]); first | done | rfl) ?_
           with_reducible refine (congruence_None.calls  t222 t223 _ A5.out).mono ?_
           rintro e w51 ⟨rfl, hb⟩
           refine ⟨_, rfl, ?_⟩
           have n0_ := aK (blk_below (g := gb216) (o := .cells #[.int .i64 t218, .int .i64 t219] 25 (0, 0)) (by (with_reducible repeat (first | refine bR ?_ | refine bA ?_ _)); exact BK216.out) hb)
           have n1_ := aK (blk_below (g := gb217) (o := .cells #[.int .i64 t220, .int .i64 t221] 25 (0, 0)) (by (with_reducible repeat (first | refine bR ?_ | refine bA ?_ _)); exact BK217.out) hb)
           have n2_ := aK (below_step (by repeat (first | (with_reducible first | exact HB.out | apply hA | apply hN | apply hD | refine below_set ?_ GE216.out | refine below_set ?_ GE217.out) | exact HB.out)) hb)
           clear BK216
           clear BK217
           clear HB
           have BK216 := n0_
           have BK217 := n1_
           have HB := n2_
           clear n0_ n1_ n2_
           (try clear hb)
           (try clear hb2)
           (try clear hk)
           (try clear hi)
           refine hK.out _ _ ⟨(blk_cell BK216.out 0).trans rfl, (blk_cell BK216.out 1).trans rfl⟩ (fun hHeld => ?_)
           clear hK K
           refine norm_ (a' := ?_) ?_ ?_
           rotate_left
           · show Act.put _ (some 11) _ = _
             simp only [Act.put, sA, sB, sC, i64_w, i32_w]
             rfl
           refine pure_ (i := 2) (N := some 12) (v := ?_) (a' := ?_) #[Y,Y,Y,Z] rfl rfl (by kernel_rfl) (fun _ _ _ h => h) (Or.inl ⟨by rfl, ?_⟩) ?_ ?_
           rotate_left
           · intro w'
             go_simp
             with_reducible rfl
           rotate_left
           · simp only [Act.put, sA, sB, sC, i64_w, i32_w]
             rfl
           refine pure_ (i := 3) (N := some 9) (v := ?_) (a' := ?_) #[Y,Y,Y,Y] rfl rfl (by kernel_rfl) (fun _ _ _ h => h) (Or.inl ⟨by rfl, ?_⟩) ?_ ?_
           rotate_left
           · intro w'
             go_simp
             with_reducible rfl
           rotate_left
           · simp only [Act.put, sA, sB, sC, i64_w, i32_w]
             rfl
           refine done_ (by kernel_rfl) ?_
           have hnb52 := NB216_217.out
           have hnc52 := NB217_216.out
           have hcz53_0 : w51.cell? ⟨gb216, 0, none⟩ = some (.int .i64 t218) := (blk_cell BK216.out 0).trans rfl
           have hcz53_1 : w51.cell? ⟨gb216, 1, none⟩ = some (.int .i64 t219) := (blk_cell BK216.out 1).trans rfl
           have hfz53_0 := blk_frozen BK216.out 0
           have hfz53_1 := blk_frozen BK216.out 1
           have hcz54_0 : w51.cell? ⟨gb217, 0, none⟩ = some (.int .i64 t220) := (blk_cell BK217.out 0).trans rfl
           have hcz54_1 : w51.cell? ⟨gb217, 1, none⟩ = some (.int .i64 t221) := (blk_cell BK217.out 1).trans rfl
           have hfz54_0 := blk_frozen BK217.out 0
           have hfz54_1 := blk_frozen BK217.out 1
           try go_wp2
           go_ret
           exact ⟨by first | rfl | (simp [errW_none, errW_some] <;> rfl) | (simp [*, errW_none, errW_some] <;> rfl), by repeat (first | (with_reducible first | exact HB.out | apply hA | apply hN | apply hD | refine below_set ?_ GE216.out | refine below_set ?_ GE217.out) | exact HB.out)⟩
       · rw [if_neg c38] at H
         have c38b0 : decide (t220 ≤ t218) = false := decide_eq_false c38
         clear c38
         obtain rfl := Option.some.inj H
         go_enter Tryd.func17, Tryd.ntmps17
         try go_wp2_with (first | ((with_reducible refine gate_dst (N := 2) rfl ?_); refine box_event ?hg (N := 2) ?hd (cs := #[.int .i64 a0_0, .int .i64 a0_1]) (t := 25) ?hr ?_; (case hd => rfl); (case hg => rfl); (case hr => first | (go_simp; done) | (go_simp; rfl)); intro gb216 hg w55 hbox hb; have n0_ := aK (below_step (by repeat (first | (with_reducible first | exact HB.out | apply hA | apply hN | apply hD) | exact HB.out)) hb); have n1_ := aK (hbox); have n2_ := aK ((by rw [hg]; exact (below_size (by repeat (first | (with_reducible first | exact HB.out | apply hA | apply hN | apply hD) | exact HB.out))) : w.heap.size ≤ gb216)); have n3_ := aK ((by rw [hg]; exact (below_size (by repeat (first | (with_reducible first | exact HB.out | apply hA | apply hN | apply hD) | exact HB.out))) : w.heap.size ≤ gb216)); clear HB; have HB := n0_; have BK216 := n1_; have GW216 := n2_; have GE216 := n3_; clear n0_ n1_ n2_ n3_; clear hb hbox hg) | ((with_reducible refine gate_dst (N := 3) rfl ?_); refine box_event ?hg (N := 3) ?hd (cs := #[.int .i64 a1_0, .int .i64 a1_1]) (t := 25) ?hr ?_; (case hd => rfl); (case hg => rfl); (case hr => first | (go_simp; done) | (go_simp; rfl)); intro gb217 hg w56 hbox hb; have n0_ := aK (blk_below (g := gb216) (o := .cells #[.int .i64 a0_0, .int .i64 a0_1] 25 (0, 0)) (by (with_reducible repeat (first | refine bR ?_ | refine bA ?_ _)); exact BK216.out) hb); have n1_ := aK (below_step (by repeat (first | (with_reducible first | exact HB.out | apply hA | apply hN | apply hD | refine below_set ?_ GE216.out) | exact HB.out)) hb); have n2_ := aK (hbox); have n3_ := aK ((by rw [hg]; exact (below_size (by repeat (first | (with_reducible first | exact HB.out | apply hA | apply hN | apply hD | refine below_set ?_ GE216.out) | exact HB.out))) : w.heap.size ≤ gb217)); have n4_ := aK ((by rw [hg]; exact (below_size (by repeat (first | (with_reducible first | exact HB.out | apply hA | apply hN | apply hD | refine below_set ?_ GE216.out) | exact HB.out))) : w.heap.size ≤ gb217)); have n5_ := aK ((by rw [hg]; exact Nat.ne_of_lt (blk_lt (g := gb216) (o := .cells #[.int .i64 a0_0, .int .i64 a0_1] 25 (0, 0)) (by (with_reducible repeat (first | refine bR ?_ | refine bA ?_ _)); exact BK216.out)) : gb216 ≠ gb217)); have n6_ := aK ((by rw [hg]; exact Nat.ne_of_gt (blk_lt (g := gb216) (o := .cells #[.int .i64 a0_0, .int .i64 a0_1] 25 (0, 0)) (by (with_reducible repeat (first | refine bR ?_ | refine bA ?_ _)); exact BK216.out)) : gb217 ≠ gb216)); clear BK216; clear HB; have BK216 := n0_; have HB := n1_; have BK217 := n2_; have GW217 := n3_; have GE217 := n4_; have NB216_217 := n5_; have NB217_216 := n6_; clear n0_ n1_ n2_ n3_ n4_ n5_ n6_; clear hb hbox hg))
         have n0_ := aK (blk_drew BK216.out)
         have n1_ := aK (blk_drew BK217.out)
         have n2_ := aK (below_drew1 HB.out)
         clear BK216
         clear BK217
         clear HB
         have BK216 := n0_
         have BK217 := n1_
         have HB := n2_
         clear n0_ n1_ n2_
         refine start_ (n := 6) (S := fun w' => w'.cell? ⟨gb216, 0, none⟩ = some (.int .i64 a0_0) ∧ w'.cell? ⟨gb216, 1, none⟩ = some (.int .i64 a0_1) ∧ w'.cell? ⟨gb217, 0, none⟩ = some (.int .i64 a1_0) ∧ w'.cell? ⟨gb217, 1, none⟩ = some (.int .i64 a1_1)) (ds := [4, 5]) #[Z,Z,Z,Z,Z,Z] (by kernel_rfl) rfl rfl ⟨(blk_cell BK216.out 0).trans rfl, (blk_cell BK216.out 1).trans rfl, (blk_cell BK217.out 0).trans rfl, (blk_cell BK217.out 1).trans rfl⟩ (fun hHeld => ?_)
         generalize w56.drew = w57 at BK216 BK217 HB hHeld ⊢
         refine take_ (i := 0) (N := some 5) (v := ?_) (a' := ?_) #[Y,Z,Z,Z,Z,Z] rfl rfl (by kernel_rfl) (fun _ _ _ h => h) (Or.inl ⟨by rfl, ?_⟩) hHeld ?_ ?_
         rotate_left
         · rintro w' ⟨s0, s1, s2, s3⟩
           go_simp
           with_reducible rfl
         rotate_left
         · simp only [Act.put, sA, sB, sC, i64_w, i32_w]
           rfl
         refine take_ (i := 2) (N := some 7) (v := ?_) (a' := ?_) #[Y,Z,Y,Z,Z,Z] rfl rfl (by kernel_rfl) (fun _ _ _ h => h) (Or.inl ⟨by rfl, ?_⟩) hHeld ?_ ?_
         rotate_left
         · rintro w' ⟨s0, s1, s2, s3⟩
           go_simp
           with_reducible rfl
         rotate_left
         · simp only [Act.put, sA, sB, sC, i64_w, i32_w]
           rfl
         refine one_ (i := 1) (N := some 6) #[Y,Y,Y,Z,Z,Z] rfl rfl (by kernel_rfl) (by decide) (fun K hK => ?_)
         refine goes_ Tryd.func24 (by kernel_rfl) rfl #[.agg #[.int .i64 a0_0, .int .i64 a0_1]] (by rfl) rfl rfl (by (try simp only [mA, mB, mC]); first | done | rfl) ?_
         with_reducible refine (congruence_Fix.calls a0_0 a0_1 t218 t219 _ A3.out).mono ?_
         rintro e w58 ⟨rfl, hb⟩
         refine ⟨_, rfl, ?_⟩
         have n0_ := aK (blk_below (g := gb216) (o := .cells #[.int .i64 a0_0, .int .i64 a0_1] 25 (0, 0)) (by (with_reducible repeat (first | refine bR ?_ | refine bA ?_ _)); exact BK216.out) hb)
         have n1_ := aK (blk_below (g := gb217) (o := .cells #[.int .i64 a1_0, .int .i64 a1_1] 25 (0, 0)) (by (with_reducible repeat (first | refine bR ?_ | refine bA ?_ _)); exact BK217.out) hb)
         have n2_ := aK (below_step (by repeat (first | (with_reducible first | exact HB.out | apply hA | apply hN | apply hD | refine below_set ?_ GE216.out | refine below_set ?_ GE217.out) | exact HB.out)) hb)
         clear BK216
         clear BK217
         clear HB
         have BK216 := n0_
         have BK217 := n1_
         have HB := n2_
         clear n0_ n1_ n2_
         (try clear hb)
         (try clear hb2)
         (try clear hk)
         (try clear hi)
         refine hK.out _ _ ⟨(blk_cell BK216.out 0).trans rfl, (blk_cell BK216.out 1).trans rfl, (blk_cell BK217.out 0).trans rfl, (blk_cell BK217.out 1).trans rfl⟩ (fun hHeld => ?_)
         clear hK K
         refine norm_ (a' := ?_) ?_ ?_
         rotate_left
         · show Act.put _ (some 6) _ = _
           simp only [Act.put, sA, sB, sC, i64_w, i32_w]
           rfl
         refine one_ (i := 3) (N := some 8) #[Y,Y,Y,Y,Z,Z] rfl rfl (by kernel_rfl) (by decide) (fun K hK => ?_)
         refine goes_ Tryd.func24 (by kernel_rfl) rfl #[.agg #[.int .i64 a1_0, .int .i64 a1_1]] (by rfl) rfl rfl (by (try simp only [mA, mB, mC]); first | done | rfl) ?_
         with_reducible refine (congruence_Fix.calls a1_0 a1_1 t220 t221 _ A4.out).mono ?_
         rintro e w59 ⟨rfl, hb⟩
         refine ⟨_, rfl, ?_⟩
         have n0_ := aK (blk_below (g := gb216) (o := .cells #[.int .i64 a0_0, .int .i64 a0_1] 25 (0, 0)) (by (with_reducible repeat (first | refine bR ?_ | refine bA ?_ _)); exact BK216.out) hb)
         have n1_ := aK (blk_below (g := gb217) (o := .cells #[.int .i64 a1_0, .int .i64 a1_1] 25 (0, 0)) (by (with_reducible repeat (first | refine bR ?_ | refine bA ?_ _)); exact BK217.out) hb)
         have n2_ := aK (below_step (by repeat (first | (with_reducible first | exact HB.out | apply hA | apply hN | apply hD | refine below_set ?_ GE216.out | refine below_set ?_ GE217.out) | exact HB.out)) hb)
         clear BK216
         clear BK217
         clear HB
         have BK216 := n0_
         have BK217 := n1_
         have HB := n2_
         clear n0_ n1_ n2_
         (try clear hb)
         (try clear hb2)
         (try clear hk)
         (try clear hi)
         refine hK.out _ _ ⟨(blk_cell BK216.out 0).trans rfl, (blk_cell BK216.out 1).trans rfl, (blk_cell BK217.out 0).trans rfl, (blk_cell BK217.out 1).trans rfl⟩ (fun hHeld => ?_)
         clear hK K
         refine norm_ (a' := ?_) ?_ ?_
         rotate_left
         · show Act.put _ (some 8) _ = _
           simp only [Act.put, sA, sB, sC, i64_w, i32_w]
           rfl
         refine last_ (i := 4) (N := none) #[Y,Y,Y,Y,Y,Z] rfl rfl (by kernel_rfl) (by decide) (fun K hK => ?_)
         have hs60 : w59.cell? ⟨gb216, 0, none⟩ = some (.int .i64 a0_0) := (blk_cell BK216.out 0).trans rfl
         have hfs60 := blk_frozen BK216.out 0
         have hns60_1 := NB217_216.out
         have hms60_1 := NB216_217.out
         have hs61 : w59.cell? ⟨gb216, 1, none⟩ = some (.int .i64 a0_1) := (blk_cell BK216.out 1).trans rfl
         have hfs61 := blk_frozen BK216.out 1
         have hns61_1 := NB217_216.out
         have hms61_1 := NB216_217.out
         refine skip_ (w1 := ?_) (by rfl) rfl ?_ ?_
         rotate_left
         · go_simp
           rfl
         refine hK.out _ _ ?_
         clear hK K
         refine last_ (i := 5) (N := none) #[Y,Y,Y,Y,Y,Y] rfl rfl (by kernel_rfl) (by decide) (fun K hK => ?_)
         have hs62 : w59.cell? ⟨gb217, 0, none⟩ = some (.int .i64 a1_0) := (blk_cell BK217.out 0).trans rfl
         have hfs62 := blk_frozen BK217.out 0
         have hns62_0 := NB216_217.out
         have hms62_0 := NB217_216.out
         have hs63 : w59.cell? ⟨gb217, 1, none⟩ = some (.int .i64 a1_1) := (blk_cell BK217.out 1).trans rfl
         have hfs63 := blk_frozen BK217.out 1
         have hns63_0 := NB216_217.out
         have hms63_0 := NB217_216.out
         refine skip_ (w1 := ?_) (by rfl) rfl ?_ ?_
         rotate_left
         · go_simp
           rfl
         refine hK.out _ _ ?_
         clear hK K
         refine done_ (by kernel_rfl) ?_
         try go_wp2
         have n0_ : Aside0 (((((w59.setCell ⟨gb216, 0, none⟩ (.int .i64 t218)).setCell ⟨gb216, 1, none⟩ (.int .i64 t219)).setCell ⟨gb217, 0, none⟩ (.int .i64 t220)).setCell ⟨gb217, 1, none⟩ (.int .i64 t221)).heap[gb216]? = some (.cells #[.int .i64 t218, .int .i64 t219] 25 (0, 0))) := ⟨by (with_reducible repeat (first | refine bR ?_ | refine bA ?_ _)); refine blk_far ?_ NB216_217.out _; (with_reducible repeat (first | refine bR ?_ | refine bA ?_ _)); refine blk_far ?_ NB216_217.out _; (with_reducible repeat (first | refine bR ?_ | refine bA ?_ _)); refine blk_put (cs := #[.int .i64 t218, .int .i64 a0_1]) ?_ 1 _ rfl; (with_reducible repeat (first | refine bR ?_ | refine bA ?_ _)); refine blk_put (cs := #[.int .i64 a0_0, .int .i64 a0_1]) ?_ 0 _ rfl; (with_reducible repeat (first | refine bR ?_ | refine bA ?_ _)); exact BK216.out⟩
         have n1_ : Aside0 (((((w59.setCell ⟨gb216, 0, none⟩ (.int .i64 t218)).setCell ⟨gb216, 1, none⟩ (.int .i64 t219)).setCell ⟨gb217, 0, none⟩ (.int .i64 t220)).setCell ⟨gb217, 1, none⟩ (.int .i64 t221)).heap[gb217]? = some (.cells #[.int .i64 t220, .int .i64 t221] 25 (0, 0))) := ⟨by (with_reducible repeat (first | refine bR ?_ | refine bA ?_ _)); refine blk_put (cs := #[.int .i64 t220, .int .i64 a1_1]) ?_ 1 _ rfl; (with_reducible repeat (first | refine bR ?_ | refine bA ?_ _)); refine blk_put (cs := #[.int .i64 a1_0, .int .i64 a1_1]) ?_ 0 _ rfl; (with_reducible repeat (first | refine bR ?_ | refine bA ?_ _)); refine blk_far ?_ NB217_216.out _; (with_reducible repeat (first | refine bR ?_ | refine bA ?_ _)); refine blk_far ?_ NB217_216.out _; (with_reducible repeat (first | refine bR ?_ | refine bA ?_ _)); exact BK217.out⟩
         have n2_ : Aside0 (Below w.heap.size w ((((w59.setCell ⟨gb216, 0, none⟩ (.int .i64 t218)).setCell ⟨gb216, 1, none⟩ (.int .i64 t219)).setCell ⟨gb217, 0, none⟩ (.int .i64 t220)).setCell ⟨gb217, 1, none⟩ (.int .i64 t221))) := ⟨by repeat (first | (with_reducible first | exact HB.out | apply hA | apply hN | apply hD | refine below_set ?_ GE216.out | refine below_set ?_ GE217.out) | exact HB.out)⟩
         (try clear BK216)
         (try clear BK217)
         (try clear HB)
         generalize ((((w59.setCell ⟨gb216, 0, none⟩ (.int .i64 t218)).setCell ⟨gb216, 1, none⟩ (.int .i64 t219)).setCell ⟨gb217, 0, none⟩ (.int .i64 t220)).setCell ⟨gb217, 1, none⟩ (.int .i64 t221)) = w64 at n0_ n1_ n2_ ⊢
         have BK216 := n0_
         have BK217 := n1_
         have HB := n2_
         clear n0_ n1_ n2_
         have n0_ := aK (blk_drew BK216.out)
         have n1_ := aK (blk_drew BK217.out)
         have n2_ := aK (below_drew1 HB.out)
         clear BK216
         clear BK217
         clear HB
         have BK216 := n0_
         have BK217 := n1_
         have HB := n2_
         clear n0_ n1_ n2_
         refine start_ (n := 4) (S := fun w' => w'.cell? ⟨gb216, 0, none⟩ = some (.int .i64 t218) ∧ w'.cell? ⟨gb216, 1, none⟩ = some (.int .i64 t219)) (ds := []) #[Z,Z,Z,Z] (by kernel_rfl) rfl rfl ⟨(blk_cell BK216.out 0).trans rfl, (blk_cell BK216.out 1).trans rfl⟩ (fun hHeld => ?_)
         generalize w64.drew = w65 at BK216 BK217 HB hHeld ⊢
         refine take_ (i := 0) (N := some 10) (v := ?_) (a' := ?_) #[Y,Z,Z,Z] rfl rfl (by kernel_rfl) (fun _ _ _ h => h) (Or.inl ⟨by rfl, ?_⟩) hHeld ?_ ?_
         rotate_left
         · rintro w' ⟨s0, s1⟩
           go_simp
           with_reducible rfl
         rotate_left
         · simp only [Act.put, sA, sB, sC, i64_w, i32_w]
           rfl
         refine one_ (i := 1) (N := some 11) #[Y,Y,Z,Z] rfl rfl (by kernel_rfl) (by decide) (fun K hK => ?_)
         refine goes_ Tryd.func9 (by kernel_rfl) rfl #[] (by rfl) rfl rfl (by (try simp only [mA, mB, mC]); first | done | rfl) ?_
         with_reducible refine (congruence_None.calls  t222 t223 _ A5.out).mono ?_
         rintro e w66 ⟨rfl, hb⟩
         refine ⟨_, rfl, ?_⟩
         have n0_ := aK (blk_below (g := gb216) (o := .cells #[.int .i64 t218, .int .i64 t219] 25 (0, 0)) (by (with_reducible repeat (first | refine bR ?_ | refine bA ?_ _)); exact BK216.out) hb)
         have n1_ := aK (blk_below (g := gb217) (o := .cells #[.int .i64 t220, .int .i64 t221] 25 (0, 0)) (by (with_reducible repeat (first | refine bR ?_ | refine bA ?_ _)); exact BK217.out) hb)
         have n2_ := aK (below_step (by repeat (first | (with_reducible first | exact HB.out | apply hA | apply hN | apply hD | refine below_set ?_ GE216.out | refine below_set ?_ GE217.out) | exact HB.out)) hb)
         clear BK216
         clear BK217
         clear HB
         have BK216 := n0_
         have BK217 := n1_
         have HB := n2_
         clear n0_ n1_ n2_
         (try clear hb)
         (try clear hb2)
         (try clear hk)
         (try clear hi)
         refine hK.out _ _ ⟨(blk_cell BK216.out 0).trans rfl, (blk_cell BK216.out 1).trans rfl⟩ (fun hHeld => ?_)
         clear hK K
         refine norm_ (a' := ?_) ?_ ?_
         rotate_left
         · show Act.put _ (some 11) _ = _
           simp only [Act.put, sA, sB, sC, i64_w, i32_w]
           rfl
         refine pure_ (i := 2) (N := some 12) (v := ?_) (a' := ?_) #[Y,Y,Y,Z] rfl rfl (by kernel_rfl) (fun _ _ _ h => h) (Or.inl ⟨by rfl, ?_⟩) ?_ ?_
         rotate_left
         · intro w'
           go_simp
           with_reducible rfl
         rotate_left
         · simp only [Act.put, sA, sB, sC, i64_w, i32_w]
           rfl
         refine pure_ (i := 3) (N := some 9) (v := ?_) (a' := ?_) #[Y,Y,Y,Y] rfl rfl (by kernel_rfl) (fun _ _ _ h => h) (Or.inl ⟨by rfl, ?_⟩) ?_ ?_
         rotate_left
         · intro w'
           go_simp
           with_reducible rfl
         rotate_left
         · simp only [Act.put, sA, sB, sC, i64_w, i32_w]
           rfl
         refine done_ (by kernel_rfl) ?_
         have hnb67 := NB216_217.out
         have hnc67 := NB217_216.out
         have hcz68_0 : w66.cell? ⟨gb216, 0, none⟩ = some (.int .i64 t218) := (blk_cell BK216.out 0).trans rfl
         have hcz68_1 : w66.cell? ⟨gb216, 1, none⟩ = some (.int .i64 t219) := (blk_cell BK216.out 1).trans rfl
         have hfz68_0 := blk_frozen BK216.out 0
         have hfz68_1 := blk_frozen BK216.out 1
         have hcz69_0 : w66.cell? ⟨gb217, 0, none⟩ = some (.int .i64 t220) := (blk_cell BK217.out 0).trans rfl
         have hcz69_1 : w66.cell? ⟨gb217, 1, none⟩ = some (.int .i64 t221) := (blk_cell BK217.out 1).trans rfl
         have hfz69_0 := blk_frozen BK217.out 0
         have hfz69_1 := blk_frozen BK217.out 1
         try go_wp2
         go_ret
         exact ⟨by first | rfl | (simp [errW_none, errW_some] <;> rfl) | (simp [*, errW_none, errW_some] <;> rfl), by repeat (first | (with_reducible first | exact HB.out | apply hA | apply hN | apply hD | refine below_set ?_ GE216.out | refine below_set ?_ GE217.out) | exact HB.out)⟩
     · rw [if_neg c37] at H
       have c37b0 : decide (1 ≤ t220) = false := decide_eq_false c37
       clear c37
       obtain rfl := Option.some.inj H
       go_enter Tryd.func17, Tryd.ntmps17
       try go_wp2_with (first | ((with_reducible refine gate_dst (N := 2) rfl ?_); refine box_event ?hg (N := 2) ?hd (cs := #[.int .i64 a0_0, .int .i64 a0_1]) (t := 25) ?hr ?_; (case hd => rfl); (case hg => rfl); (case hr => first | (go_simp; done) | (go_simp; rfl)); intro gb216 hg w70 hbox hb; have n0_ := aK (below_step (by repeat (first | (with_reducible first | exact HB.out | apply hA | apply hN | apply hD) | exact HB.out)) hb); have n1_ := aK (hbox); have n2_ := aK ((by rw [hg]; exact (below_size (by repeat (first | (with_reducible first | exact HB.out | apply hA | apply hN | apply hD) | exact HB.out))) : w.heap.size ≤ gb216)); have n3_ := aK ((by rw [hg]; exact (below_size (by repeat (first | (with_reducible first | exact HB.out | apply hA | apply hN | apply hD) | exact HB.out))) : w.heap.size ≤ gb216)); clear HB; have HB := n0_; have BK216 := n1_; have GW216 := n2_; have GE216 := n3_; clear n0_ n1_ n2_ n3_; clear hb hbox hg) | ((with_reducible refine gate_dst (N := 3) rfl ?_); refine box_event ?hg (N := 3) ?hd (cs := #[.int .i64 a1_0, .int .i64 a1_1]) (t := 25) ?hr ?_; (case hd => rfl); (case hg => rfl); (case hr => first | (go_simp; done) | (go_simp; rfl)); intro gb217 hg w71 hbox hb; have n0_ := aK (blk_below (g := gb216) (o := .cells #[.int .i64 a0_0, .int .i64 a0_1] 25 (0, 0)) (by (with_reducible repeat (first | refine bR ?_ | refine bA ?_ _)); exact BK216.out) hb); have n1_ := aK (below_step (by repeat (first | (with_reducible first | exact HB.out | apply hA | apply hN | apply hD | refine below_set ?_ GE216.out) | exact HB.out)) hb); have n2_ := aK (hbox); have n3_ := aK ((by rw [hg]; exact (below_size (by repeat (first | (with_reducible first | exact HB.out | apply hA | apply hN | apply hD | refine below_set ?_ GE216.out) | exact HB.out))) : w.heap.size ≤ gb217)); have n4_ := aK ((by rw [hg]; exact (below_size (by repeat (first | (with_reducible first | exact HB.out | apply hA | apply hN | apply hD | refine below_set ?_ GE216.out) | exact HB.out))) : w.heap.size ≤ gb217)); have n5_ := aK ((by rw [hg]; exact Nat.ne_of_lt (blk_lt (g := gb216) (o := .cells #[.int .i64 a0_0, .int .i64 a0_1] 25 (0, 0)) (by (with_reducible repeat (first | refine bR ?_ | refine bA ?_ _)); exact BK216.out)) : gb216 ≠ gb217)); have n6_ := aK ((by rw [hg]; exact Nat.ne_of_gt (blk_lt (g := gb216) (o := .cells #[.int .i64 a0_0, .int .i64 a0_1] 25 (0, 0)) (by (with_reducible repeat (first | refine bR ?_ | refine bA ?_ _)); exact BK216.out)) : gb217 ≠ gb216)); clear BK216; clear HB; have BK216 := n0_; have HB := n1_; have BK217 := n2_; have GW217 := n3_; have GE217 := n4_; have NB216_217 := n5_; have NB217_216 := n6_; clear n0_ n1_ n2_ n3_ n4_ n5_ n6_; clear hb hbox hg))
       have n0_ := aK (blk_drew BK216.out)
       have n1_ := aK (blk_drew BK217.out)
       have n2_ := aK (below_drew1 HB.out)
       clear BK216
       clear BK217
       clear HB
       have BK216 := n0_
       have BK217 := n1_
       have HB := n2_
       clear n0_ n1_ n2_
       refine start_ (n := 6) (S := fun w' => w'.cell? ⟨gb216, 0, none⟩ = some (.int .i64 a0_0) ∧ w'.cell? ⟨gb216, 1, none⟩ = some (.int .i64 a0_1) ∧ w'.cell? ⟨gb217, 0, none⟩ = some (.int .i64 a1_0) ∧ w'.cell? ⟨gb217, 1, none⟩ = some (.int .i64 a1_1)) (ds := [4, 5]) #[Z,Z,Z,Z,Z,Z] (by kernel_rfl) rfl rfl ⟨(blk_cell BK216.out 0).trans rfl, (blk_cell BK216.out 1).trans rfl, (blk_cell BK217.out 0).trans rfl, (blk_cell BK217.out 1).trans rfl⟩ (fun hHeld => ?_)
       generalize w71.drew = w72 at BK216 BK217 HB hHeld ⊢
       refine take_ (i := 0) (N := some 5) (v := ?_) (a' := ?_) #[Y,Z,Z,Z,Z,Z] rfl rfl (by kernel_rfl) (fun _ _ _ h => h) (Or.inl ⟨by rfl, ?_⟩) hHeld ?_ ?_
       rotate_left
       · rintro w' ⟨s0, s1, s2, s3⟩
         go_simp
         with_reducible rfl
       rotate_left
       · simp only [Act.put, sA, sB, sC, i64_w, i32_w]
         rfl
       refine take_ (i := 2) (N := some 7) (v := ?_) (a' := ?_) #[Y,Z,Y,Z,Z,Z] rfl rfl (by kernel_rfl) (fun _ _ _ h => h) (Or.inl ⟨by rfl, ?_⟩) hHeld ?_ ?_
       rotate_left
       · rintro w' ⟨s0, s1, s2, s3⟩
         go_simp
         with_reducible rfl
       rotate_left
       · simp only [Act.put, sA, sB, sC, i64_w, i32_w]
         rfl
       refine one_ (i := 1) (N := some 6) #[Y,Y,Y,Z,Z,Z] rfl rfl (by kernel_rfl) (by decide) (fun K hK => ?_)
       refine goes_ Tryd.func24 (by kernel_rfl) rfl #[.agg #[.int .i64 a0_0, .int .i64 a0_1]] (by rfl) rfl rfl (by (try simp only [mA, mB, mC]); first | done | rfl) ?_
       with_reducible refine (congruence_Fix.calls a0_0 a0_1 t218 t219 _ A3.out).mono ?_
       rintro e w73 ⟨rfl, hb⟩
       refine ⟨_, rfl, ?_⟩
       have n0_ := aK (blk_below (g := gb216) (o := .cells #[.int .i64 a0_0, .int .i64 a0_1] 25 (0, 0)) (by (with_reducible repeat (first | refine bR ?_ | refine bA ?_ _)); exact BK216.out) hb)
       have n1_ := aK (blk_below (g := gb217) (o := .cells #[.int .i64 a1_0, .int .i64 a1_1] 25 (0, 0)) (by (with_reducible repeat (first | refine bR ?_ | refine bA ?_ _)); exact BK217.out) hb)
       have n2_ := aK (below_step (by repeat (first | (with_reducible first | exact HB.out | apply hA | apply hN | apply hD | refine below_set ?_ GE216.out | refine below_set ?_ GE217.out) | exact HB.out)) hb)
       clear BK216
       clear BK217
       clear HB
       have BK216 := n0_
       have BK217 := n1_
       have HB := n2_
       clear n0_ n1_ n2_
       (try clear hb)
       (try clear hb2)
       (try clear hk)
       (try clear hi)
       refine hK.out _ _ ⟨(blk_cell BK216.out 0).trans rfl, (blk_cell BK216.out 1).trans rfl, (blk_cell BK217.out 0).trans rfl, (blk_cell BK217.out 1).trans rfl⟩ (fun hHeld => ?_)
       clear hK K
       refine norm_ (a' := ?_) ?_ ?_
       rotate_left
       · show Act.put _ (some 6) _ = _
         simp only [Act.put, sA, sB, sC, i64_w, i32_w]
         rfl
       refine one_ (i := 3) (N := some 8) #[Y,Y,Y,Y,Z,Z] rfl rfl (by kernel_rfl) (by decide) (fun K hK => ?_)
       refine goes_ Tryd.func24 (by kernel_rfl) rfl #[.agg #[.int .i64 a1_0, .int .i64 a1_1]] (by rfl) rfl rfl (by (try simp only [mA, mB, mC]); first | done | rfl) ?_
       with_reducible refine (congruence_Fix.calls a1_0 a1_1 t220 t221 _ A4.out).mono ?_
       rintro e w74 ⟨rfl, hb⟩
       refine ⟨_, rfl, ?_⟩
       have n0_ := aK (blk_below (g := gb216) (o := .cells #[.int .i64 a0_0, .int .i64 a0_1] 25 (0, 0)) (by (with_reducible repeat (first | refine bR ?_ | refine bA ?_ _)); exact BK216.out) hb)
       have n1_ := aK (blk_below (g := gb217) (o := .cells #[.int .i64 a1_0, .int .i64 a1_1] 25 (0, 0)) (by (with_reducible repeat (first | refine bR ?_ | refine bA ?_ _)); exact BK217.out) hb)
       have n2_ := aK (below_step (by repeat (first | (with_reducible first | exact HB.out | apply hA | apply hN | apply hD | refine below_set ?_ GE216.out | refine below_set ?_ GE217.out) | exact HB.out)) hb)
       clear BK216
       clear BK217
       clear HB
       have BK216 := n0_
       have BK217 := n1_
       have HB := n2_
       clear n0_ n1_ n2_
       (try clear hb)
       (try clear hb2)
       (try clear hk)
       (try clear hi)
       refine hK.out _ _ ⟨(blk_cell BK216.out 0).trans rfl, (blk_cell BK216.out 1).trans rfl, (blk_cell BK217.out 0).trans rfl, (blk_cell BK217.out 1).trans rfl⟩ (fun hHeld => ?_)
       clear hK K
       refine norm_ (a' := ?_) ?_ ?_
       rotate_left
       · show Act.put _ (some 8) _ = _
         simp only [Act.put, sA, sB, sC, i64_w, i32_w]
         rfl
       refine last_ (i := 4) (N := none) #[Y,Y,Y,Y,Y,Z] rfl rfl (by kernel_rfl) (by decide) (fun K hK => ?_)
       have hs75 : w74.cell? ⟨gb216, 0, none⟩ = some (.int .i64 a0_0) := (blk_cell BK216.out 0).trans rfl
       have hfs75 := blk_frozen BK216.out 0
       have hns75_1 := NB217_216.out
       have hms75_1 := NB216_217.out
       have hs76 : w74.cell? ⟨gb216, 1, none⟩ = some (.int .i64 a0_1) := (blk_cell BK216.out 1).trans rfl
       have hfs76 := blk_frozen BK216.out 1
       have hns76_1 := NB217_216.out
       have hms76_1 := NB216_217.out
       refine skip_ (w1 := ?_) (by rfl) rfl ?_ ?_
       rotate_left
       · go_simp
         rfl
       refine hK.out _ _ ?_
       clear hK K
       refine last_ (i := 5) (N := none) #[Y,Y,Y,Y,Y,Y] rfl rfl (by kernel_rfl) (by decide) (fun K hK => ?_)
       have hs77 : w74.cell? ⟨gb217, 0, none⟩ = some (.int .i64 a1_0) := (blk_cell BK217.out 0).trans rfl
       have hfs77 := blk_frozen BK217.out 0
       have hns77_0 := NB216_217.out
       have hms77_0 := NB217_216.out
       have hs78 : w74.cell? ⟨gb217, 1, none⟩ = some (.int .i64 a1_1) := (blk_cell BK217.out 1).trans rfl
       have hfs78 := blk_frozen BK217.out 1
       have hns78_0 := NB216_217.out
       have hms78_0 := NB217_216.out
       refine skip_ (w1 := ?_) (by rfl) rfl ?_ ?_
       rotate_left
       · go_simp
         rfl
       refine hK.out _ _ ?_
       clear hK K
       refine done_ (by kernel_rfl) ?_
       try go_wp2
       have n0_ : Aside0 (((((w74.setCell ⟨gb216, 0, none⟩ (.int .i64 t218)).setCell ⟨gb216, 1, none⟩ (.int .i64 t219)).setCell ⟨gb217, 0, none⟩ (.int .i64 t220)).setCell ⟨gb217, 1, none⟩ (.int .i64 t221)).heap[gb216]? = some (.cells #[.int .i64 t218, .int .i64 t219] 25 (0, 0))) := ⟨by (with_reducible repeat (first | refine bR ?_ | refine bA ?_ _)); refine blk_far ?_ NB216_217.out _; (with_reducible repeat (first | refine bR ?_ | refine bA ?_ _)); refine blk_far ?_ NB216_217.out _; (with_reducible repeat (first | refine bR ?_ | refine bA ?_ _)); refine blk_put (cs := #[.int .i64 t218, .int .i64 a0_1]) ?_ 1 _ rfl; (with_reducible repeat (first | refine bR ?_ | refine bA ?_ _)); refine blk_put (cs := #[.int .i64 a0_0, .int .i64 a0_1]) ?_ 0 _ rfl; (with_reducible repeat (first | refine bR ?_ | refine bA ?_ _)); exact BK216.out⟩
       have n1_ : Aside0 (((((w74.setCell ⟨gb216, 0, none⟩ (.int .i64 t218)).setCell ⟨gb216, 1, none⟩ (.int .i64 t219)).setCell ⟨gb217, 0, none⟩ (.int .i64 t220)).setCell ⟨gb217, 1, none⟩ (.int .i64 t221)).heap[gb217]? = some (.cells #[.int .i64 t220, .int .i64 t221] 25 (0, 0))) := ⟨by (with_reducible repeat (first | refine bR ?_ | refine bA ?_ _)); refine blk_put (cs := #[.int .i64 t220, .int .i64 a1_1]) ?_ 1 _ rfl; (with_reducible repeat (first | refine bR ?_ | refine bA ?_ _)); refine blk_put (cs := #[.int .i64 a1_0, .int .i64 a1_1]) ?_ 0 _ rfl; (with_reducible repeat (first | refine bR ?_ | refine bA ?_ _)); refine blk_far ?_ NB217_216.out _; (with_reducible repeat (first | refine bR ?_ | refine bA ?_ _)); refine blk_far ?_ NB217_216.out _; (with_reducible repeat (first | refine bR ?_ | refine bA ?_ _)); exact BK217.out⟩
       have n2_ : Aside0 (Below w.heap.size w ((((w74.setCell ⟨gb216, 0, none⟩ (.int .i64 t218)).setCell ⟨gb216, 1, none⟩ (.int .i64 t219)).setCell ⟨gb217, 0, none⟩ (.int .i64 t220)).setCell ⟨gb217, 1, none⟩ (.int .i64 t221))) := ⟨by repeat (first | (with_reducible first | exact HB.out | apply hA | apply hN | apply hD | refine below_set ?_ GE216.out | refine below_set ?_ GE217.out) | exact HB.out)⟩
       (try clear BK216)
       (try clear BK217)
       (try clear HB)
       generalize ((((w74.setCell ⟨gb216, 0, none⟩ (.int .i64 t218)).setCell ⟨gb216, 1, none⟩ (.int .i64 t219)).setCell ⟨gb217, 0, none⟩ (.int .i64 t220)).setCell ⟨gb217, 1, none⟩ (.int .i64 t221)) = w79 at n0_ n1_ n2_ ⊢
       have BK216 := n0_
       have BK217 := n1_
       have HB := n2_
       clear n0_ n1_ n2_
       have n0_ := aK (blk_drew BK216.out)
       have n1_ := aK (blk_drew BK217.out)
       have n2_ := aK (below_drew1 HB.out)
       clear BK216
       clear BK217
       clear HB
       have BK216 := n0_
       have BK217 := n1_
       have HB := n2_
       clear n0_ n1_ n2_
       refine start_ (n := 4) (S := fun w' => w'.cell? ⟨gb216, 0, none⟩ = some (.int .i64 t218) ∧ w'.cell? ⟨gb216, 1, none⟩ = some (.int .i64 t219)) (ds := []) #[Z,Z,Z,Z] (by kernel_rfl) rfl rfl ⟨(blk_cell BK216.out 0).trans rfl, (blk_cell BK216.out 1).trans rfl⟩ (fun hHeld => ?_)
       generalize w79.drew = w80 at BK216 BK217 HB hHeld ⊢
       refine take_ (i := 0) (N := some 10) (v := ?_) (a' := ?_) #[Y,Z,Z,Z] rfl rfl (by kernel_rfl) (fun _ _ _ h => h) (Or.inl ⟨by rfl, ?_⟩) hHeld ?_ ?_
       rotate_left
       · rintro w' ⟨s0, s1⟩
         go_simp
         with_reducible rfl
       rotate_left
       · simp only [Act.put, sA, sB, sC, i64_w, i32_w]
         rfl
       refine one_ (i := 1) (N := some 11) #[Y,Y,Z,Z] rfl rfl (by kernel_rfl) (by decide) (fun K hK => ?_)
       refine goes_ Tryd.func9 (by kernel_rfl) rfl #[] (by rfl) rfl rfl (by (try simp only [mA, mB, mC]); first | done | rfl) ?_
       with_reducible refine (congruence_None.calls  t222 t223 _ A5.out).mono ?_
       rintro e w81 ⟨rfl, hb⟩
       refine ⟨_, rfl, ?_⟩
       have n0_ := aK (blk_below (g := gb216) (o := .cells #[.int .i64 t218, .int .i64 t219] 25 (0, 0)) (by (with_reducible repeat (first | refine bR ?_ | refine bA ?_ _)); exact BK216.out) hb)
       have n1_ := aK (blk_below (g := gb217) (o := .cells #[.int .i64 t220, .int .i64 t221] 25 (0, 0)) (by (with_reducible repeat (first | refine bR ?_ | refine bA ?_ _)); exact BK217.out) hb)
       have n2_ := aK (below_step (by repeat (first | (with_reducible first | exact HB.out | apply hA | apply hN | apply hD | refine below_set ?_ GE216.out | refine below_set ?_ GE217.out) | exact HB.out)) hb)
       clear BK216
       clear BK217
       clear HB
       have BK216 := n0_
       have BK217 := n1_
       have HB := n2_
       clear n0_ n1_ n2_
       (try clear hb)
       (try clear hb2)
       (try clear hk)
       (try clear hi)
       refine hK.out _ _ ⟨(blk_cell BK216.out 0).trans rfl, (blk_cell BK216.out 1).trans rfl⟩ (fun hHeld => ?_)
       clear hK K
       refine norm_ (a' := ?_) ?_ ?_
       rotate_left
       · show Act.put _ (some 11) _ = _
         simp only [Act.put, sA, sB, sC, i64_w, i32_w]
         rfl
       refine pure_ (i := 2) (N := some 12) (v := ?_) (a' := ?_) #[Y,Y,Y,Z] rfl rfl (by kernel_rfl) (fun _ _ _ h => h) (Or.inl ⟨by rfl, ?_⟩) ?_ ?_
       rotate_left
       · intro w'
         go_simp
         with_reducible rfl
       rotate_left
       · simp only [Act.put, sA, sB, sC, i64_w, i32_w]
         rfl
       refine pure_ (i := 3) (N := some 9) (v := ?_) (a' := ?_) #[Y,Y,Y,Y] rfl rfl (by kernel_rfl) (fun _ _ _ h => h) (Or.inl ⟨by rfl, ?_⟩) ?_ ?_
       rotate_left
       · intro w'
         go_simp
         with_reducible rfl
       rotate_left
       · simp only [Act.put, sA, sB, sC, i64_w, i32_w]
         rfl
       refine done_ (by kernel_rfl) ?_
       have hnb82 := NB216_217.out
       have hnc82 := NB217_216.out
       have hcz83_0 : w81.cell? ⟨gb216, 0, none⟩ = some (.int .i64 t218) := (blk_cell BK216.out 0).trans rfl
       have hcz83_1 : w81.cell? ⟨gb216, 1, none⟩ = some (.int .i64 t219) := (blk_cell BK216.out 1).trans rfl
       have hfz83_0 := blk_frozen BK216.out 0
       have hfz83_1 := blk_frozen BK216.out 1
       have hcz84_0 : w81.cell? ⟨gb217, 0, none⟩ = some (.int .i64 t220) := (blk_cell BK217.out 0).trans rfl
       have hcz84_1 : w81.cell? ⟨gb217, 1, none⟩ = some (.int .i64 t221) := (blk_cell BK217.out 1).trans rfl
       have hfz84_0 := blk_frozen BK217.out 0
       have hfz84_1 := blk_frozen BK217.out 1
       try go_wp2
       go_ret
       exact ⟨by first | rfl | (simp [errW_none, errW_some] <;> rfl) | (simp [*, errW_none, errW_some] <;> rfl), by repeat (first | (with_reducible first | exact HB.out | apply hA | apply hN | apply hD | refine below_set ?_ GE216.out | refine below_set ?_ GE217.out) | exact HB.out)⟩
end Go.Proofs.YtaphfmbloappkaaDoorG.PAll
