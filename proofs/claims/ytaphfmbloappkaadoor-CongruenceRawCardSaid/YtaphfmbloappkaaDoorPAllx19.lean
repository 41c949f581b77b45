-- The walks of some functions, printed by a program for this claim.
import Derived.Test.YtaphfmbloappkaaDoorPAllx0
import Derived.Test.YtaphfmbloappkaaDoorPAllx1
import Derived.Test.YtaphfmbloappkaaDoorPAllx2
import Derived.Test.YtaphfmbloappkaaDoorPAllx5
import Derived.Test.YtaphfmbloappkaaDoorPAllx11
import Derived.Test.YtaphfmbloappkaaDoorPAllx18
namespace Go.Proofs.YtaphfmbloappkaaDoorG.PAll
open Go.RowKit Go.Proofs.YtaphfmbloappkaaDoorW.PrintWords Go.Proofs.YtaphfmbloappkaaDoorW.PrintLast Go.Proofs.YtaphfmbloappkaaDoorW.PrintMore
attribute [local go_sem] max2_int min2_int max_two min_two max_three min_three max_four min_four   -- for this text's walks alone
set_option linter.unusedVariables false
set_option linter.unusedSimpArgs false
attribute [local go_sem high] eqA25
/-! ### timeboundlaw08_CongruenceRaw: function 5 -/
def timeboundlaw08_CongruenceRaw.f (k : Nat) (a0 : Int) (a1_0 : Int) (a1_1 : Int) (a2_0 : Int) (a2_1 : Int) (a3 : Int) : Option (Bool) := (timeboundlaw08_agree.f k a0 a1_0 a1_1 a2_0 a2_1 a3).bind fun t443 => (if t443 = true then ((congruence_All.f).bind fun bt444 => ((timeboundref08_All.f).bind fun bt446 => (if (bt444.1 == bt446.1 && (bt444.2 == bt446.2)) = true then ((congruence_None.f).bind fun bt448 => ((timeboundref08_None.f).bind fun bt450 => (if (bt448.1 == bt450.1 && (bt448.2 == bt450.2)) = true then ((timeboundlaw08_awake.f k).bind fun t452 => (some t452)) else (none)))) else (none)))) else (none))
theorem timeboundlaw08_CongruenceRaw.mono : ∀ a0 a1 a2 a3 a4 a5 k, LeO (timeboundlaw08_CongruenceRaw.f k a0 a1 a2 a3 a4 a5) (timeboundlaw08_CongruenceRaw.f (k + 1) a0 a1 a2 a3 a4 a5) := by
 intro a0 a1 a2 a3 a4 a5 k
 unfold timeboundlaw08_CongruenceRaw.f
 repeat' first
  | (with_reducible exact timeboundlaw08_agree.mono _ _ _ _ _ _ _)
  | (with_reducible exact timeboundlaw08_awake.mono _)
  | (with_reducible exact LeO.refl _)
  | (with_reducible exact LeO.none _)
  | (with_reducible refine LeO.ite ?_ ?_)
  | (with_reducible refine LeO.bind ?_ (fun _ => ?_))
  | exact timeboundlaw08_agree.mono _ _ _ _ _ _ _
  | exact timeboundlaw08_awake.mono _
  | exact LeO.none _
  | refine LeO.ite ?_ ?_
  | refine LeO.bind ?_ (fun _ => ?_)
set_option maxHeartbeats 80000000 in
set_option maxRecDepth 100000 in
theorem timeboundlaw08_CongruenceRaw.calls (k : Nat) (a0 : Int) (a1_0 : Int) (a1_1 : Int) (a2_0 : Int) (a2_1 : Int) (a3 : Int) (r : Bool) (w : World) (h : timeboundlaw08_CongruenceRaw.f k a0 a1_0 a1_1 a2_0 a2_1 a3 = some r) (hT0 : Go.Proofs.YtaphfmbloappkaaDoor.TabOK w) :
 Calls Tryd.prog 5 #[.int .i64 a0, .agg #[.int .i64 a1_0, .int .i64 a1_1], .agg #[.int .i64 a2_0, .int .i64 a2_1], .int .i64 a3] w fun e w' => e = .returned (.bool r) ∧ Below w.heap.size w w' := by
 have hT := aK hT0
 clear hT0
 have hu25 := Tryd.underlying25
 have HB := aK (Below.refl w.heap.size w)
 have H : ((timeboundlaw08_agree.f k a0 a1_0 a1_1 a2_0 a2_1 a3).bind fun t443 => (if t443 = true then ((congruence_All.f).bind fun bt444 => ((timeboundref08_All.f).bind fun bt446 => (if (bt444.1 == bt446.1 && (bt444.2 == bt446.2)) = true then ((congruence_None.f).bind fun bt448 => ((timeboundref08_None.f).bind fun bt450 => (if (bt448.1 == bt450.1 && (bt448.2 == bt450.2)) = true then ((timeboundlaw08_awake.f k).bind fun t452 => (some t452)) else (none)))) else (none)))) else (none))) = some r := h
 clear h
 replace H := Option.bind_eq_some_iff.mp H
 obtain ⟨t443, A50, H⟩ := H
 replace H : (if t443 = true then ((congruence_All.f).bind fun bt444 => ((timeboundref08_All.f).bind fun bt446 => (if (bt444.1 == bt446.1 && (bt444.2 == bt446.2)) = true then ((congruence_None.f).bind fun bt448 => ((timeboundref08_None.f).bind fun bt450 => (if (bt448.1 == bt450.1 && (bt448.2 == bt450.2)) = true then ((timeboundlaw08_awake.f k).bind fun t452 => (some t452)) else (none)))) else (none)))) else (none)) = some r := H
 have A5 := aK A50
 clear A50
 by_cases c6 : t443 = true
 · subst c6
   have H1 : ((congruence_All.f).bind fun bt444 => ((timeboundref08_All.f).bind fun bt446 => (if (bt444.1 == bt446.1 && (bt444.2 == bt446.2)) = true then ((congruence_None.f).bind fun bt448 => ((timeboundref08_None.f).bind fun bt450 => (if (bt448.1 == bt450.1 && (bt448.2 == bt450.2)) = true then ((timeboundlaw08_awake.f k).bind fun t452 => (some t452)) else (none)))) else (none)))) = some r := by rw [if_pos rfl] at H; exact H
   clear H
   have H := H1
   clear H1
   replace H := Option.bind_eq_some_iff.mp H
   obtain ⟨⟨t444, t445⟩, A70, H⟩ := H
   replace H : ((timeboundref08_All.f).bind fun bt446 => (if (t444 == bt446.1 && (t445 == bt446.2)) = true then ((congruence_None.f).bind fun bt448 => ((timeboundref08_None.f).bind fun bt450 => (if (bt448.1 == bt450.1 && (bt448.2 == bt450.2)) = true then ((timeboundlaw08_awake.f k).bind fun t452 => (some t452)) else (none)))) else (none))) = some r := H
   have A7 := aK A70
   clear A70
   replace H := Option.bind_eq_some_iff.mp H
   obtain ⟨⟨t446, t447⟩, A80, H⟩ := H
   replace H : (if (t444 == t446 && (t445 == t447)) = true then ((congruence_None.f).bind fun bt448 => ((timeboundref08_None.f).bind fun bt450 => (if (bt448.1 == bt450.1 && (bt448.2 == bt450.2)) = true then ((timeboundlaw08_awake.f k).bind fun t452 => (some t452)) else (none)))) else (none)) = some r := H
   have A8 := aK A80
   clear A80
   by_cases c9 : (t444 == t446 && (t445 == t447)) = true
   · rw [if_pos c9] at H
     have c9b0 : (t444 == t446 && (t445 == t447)) = true := c9
     (try (have c9b1 : decide (t444 = t446 && (t445 == t447)) = true := by simpa using c9))
     (try (have c9b2 : (t444 == t446 && (t445 == t447)) = true := by simpa using c9))
     clear c9
     replace H := Option.bind_eq_some_iff.mp H
     obtain ⟨⟨t448, t449⟩, A100, H⟩ := H
     replace H : ((timeboundref08_None.f).bind fun bt450 => (if (t448 == bt450.1 && (t449 == bt450.2)) = true then ((timeboundlaw08_awake.f k).bind fun t452 => (some t452)) else (none))) = some r := H
     have A10 := aK A100
     clear A100
     replace H := Option.bind_eq_some_iff.mp H
     obtain ⟨⟨t450, t451⟩, A110, H⟩ := H
     replace H : (if (t448 == t450 && (t449 == t451)) = true then ((timeboundlaw08_awake.f k).bind fun t452 => (some t452)) else (none)) = some r := H
     have A11 := aK A110
     clear A110
     by_cases c12 : (t448 == t450 && (t449 == t451)) = true
     · rw [if_pos c12] at H
       have c12b0 : (t448 == t450 && (t449 == t451)) = true := c12
       (try (have c12b1 : decide (t448 = t450 && (t449 == t451)) = true := by simpa using c12))
       (try (have c12b2 : (t448 == t450 && (t449 == t451)) = true := by simpa using c12))
       clear c12
       replace H := Option.bind_eq_some_iff.mp H
       obtain ⟨t452, A130, H⟩ := H
       replace H : (some t452) = some r := H
       have A13 := aK A130
       clear A130
       obtain rfl := Option.some.inj H
       go_enter Tryd.func5, Tryd.ntmps5
       go_wp2_with (first | ((with_reducible refine gate_dst (N := 5) rfl ?_); refine box_event ?hg (N := 5) ?hd (cs := #[.int .i64 a1_0, .int .i64 a1_1]) (t := 25) ?hr ?_; (case hd => rfl); (case hg => rfl); (case hr => first | (go_simp; done) | (go_simp; rfl)); intro gb441 hg w14 hbox hb; have n0_ := aK (below_step (by repeat (first | (with_reducible first | exact HB.out | apply hA | apply hN | apply hD) | exact HB.out)) hb); have n1_ := aK (hbox); have n2_ := aK ((by rw [hg]; exact (below_size (by repeat (first | (with_reducible first | exact HB.out | apply hA | apply hN | apply hD) | exact HB.out))) : w.heap.size ≤ gb441)); have n3_ := aK ((by rw [hg]; exact (below_size (by repeat (first | (with_reducible first | exact HB.out | apply hA | apply hN | apply hD) | exact HB.out))) : w.heap.size ≤ gb441)); clear HB; have HB := n0_; have BK441 := n1_; have GW441 := n2_; have GE441 := n3_; clear n0_ n1_ n2_ n3_; clear hb hbox hg) | ((with_reducible refine gate_dst (N := 6) rfl ?_); refine box_event ?hg (N := 6) ?hd (cs := #[.int .i64 a2_0, .int .i64 a2_1]) (t := 25) ?hr ?_; (case hd => rfl); (case hg => rfl); (case hr => first | (go_simp; done) | (go_simp; rfl)); intro gb442 hg w15 hbox hb; have n0_ := aK (blk_below (g := gb441) (o := .cells #[.int .i64 a1_0, .int .i64 a1_1] 25 (0, 0)) (by (with_reducible repeat (first | refine bR ?_ | refine bA ?_ _)); exact BK441.out) hb); have n1_ := aK (below_step (by repeat (first | (with_reducible first | exact HB.out | apply hA | apply hN | apply hD | refine below_set ?_ GE441.out) | exact HB.out)) hb); have n2_ := aK (hbox); have n3_ := aK ((by rw [hg]; exact (below_size (by repeat (first | (with_reducible first | exact HB.out | apply hA | apply hN | apply hD | refine below_set ?_ GE441.out) | exact HB.out))) : w.heap.size ≤ gb442)); have n4_ := aK ((by rw [hg]; exact (below_size (by repeat (first | (with_reducible first | exact HB.out | apply hA | apply hN | apply hD | refine below_set ?_ GE441.out) | exact HB.out))) : w.heap.size ≤ gb442)); have n5_ := aK ((by rw [hg]; exact Nat.ne_of_lt (blk_lt (g := gb441) (o := .cells #[.int .i64 a1_0, .int .i64 a1_1] 25 (0, 0)) (by (with_reducible repeat (first | refine bR ?_ | refine bA ?_ _)); exact BK441.out)) : gb441 ≠ gb442)); have n6_ := aK ((by rw [hg]; exact Nat.ne_of_gt (blk_lt (g := gb441) (o := .cells #[.int .i64 a1_0, .int .i64 a1_1] 25 (0, 0)) (by (with_reducible repeat (first | refine bR ?_ | refine bA ?_ _)); exact BK441.out)) : gb442 ≠ gb441)); clear BK441; clear HB; have BK441 := n0_; have HB := n1_; have BK442 := n2_; have GW442 := n3_; have GE442 := n4_; have NB441_442 := n5_; have NB442_441 := n6_; clear n0_ n1_ n2_ n3_ n4_ n5_ n6_; clear hb hbox hg; have hnb16 := NB441_442.out; have hnc16 := NB442_441.out; have hcz17_0 : w15.cell? ⟨gb441, 0, none⟩ = some (.int .i64 a1_0) := (blk_cell BK441.out 0).trans rfl; have hcz17_1 : w15.cell? ⟨gb441, 1, none⟩ = some (.int .i64 a1_1) := (blk_cell BK441.out 1).trans rfl; have hfz17_0 := blk_frozen BK441.out 0; have hfz17_1 := blk_frozen BK441.out 1; have hcz18_0 : w15.cell? ⟨gb442, 0, none⟩ = some (.int .i64 a2_0) := (blk_cell BK442.out 0).trans rfl; have hcz18_1 : w15.cell? ⟨gb442, 1, none⟩ = some (.int .i64 a2_1) := (blk_cell BK442.out 1).trans rfl; have hfz18_0 := blk_frozen BK442.out 0; have hfz18_1 := blk_frozen BK442.out 1) | ((with_reducible refine gate_callee (f := 18) rfl ?_); refine goesL_ (some 13) rfl rfl Tryd.func18 (by kernel_rfl) rfl #[.int .i64 a0, .agg #[.int .i64 a1_0, .int .i64 a1_1], .agg #[.int .i64 a2_0, .int .i64 a2_1], .int .i64 a3] rfl (by (try simp only [mA, mB, mC]); first | done | rfl) ?_; (with_reducible refine (timeboundlaw08_agree.calls k a0 a1_0 a1_1 a2_0 a2_1 a3 true _ A5.out (Go.Proofs.YtaphfmbloappkaaDoor.TabOK.below hT.out (by repeat (first | (with_reducible first | exact HB.out | apply hA | apply hN | apply hD | refine below_set ?_ GE441.out | refine below_set ?_ GE442.out) | exact HB.out)))).mono ?_); rintro e w19 ⟨rfl, hb⟩; refine ⟨_, rfl, ?_⟩; have n0_ := aK (blk_below (g := gb441) (o := .cells #[.int .i64 a1_0, .int .i64 a1_1] 25 (0, 0)) (by (with_reducible repeat (first | refine bR ?_ | refine bA ?_ _)); exact BK441.out) hb); have n1_ := aK (blk_below (g := gb442) (o := .cells #[.int .i64 a2_0, .int .i64 a2_1] 25 (0, 0)) (by (with_reducible repeat (first | refine bR ?_ | refine bA ?_ _)); exact BK442.out) hb); have n2_ := aK (below_step (by repeat (first | (with_reducible first | exact HB.out | apply hA | apply hN | apply hD | refine below_set ?_ GE441.out | refine below_set ?_ GE442.out) | exact HB.out)) hb); clear BK441; clear BK442; clear HB; have BK441 := n0_; have BK442 := n1_; have HB := n2_; clear n0_ n1_ n2_; (try clear hb); (try clear hb2); (try clear hk); (try clear hi)) | (go_at_call 19; (with_reducible refine (congruence_All.calls  t444 t445 _ A7.out).mono ?_); rintro e w20 ⟨rfl, hb⟩; have n0_ := aK (blk_below (g := gb441) (o := .cells #[.int .i64 a1_0, .int .i64 a1_1] 25 (0, 0)) (by (with_reducible repeat (first | refine bR ?_ | refine bA ?_ _)); exact BK441.out) hb); have n1_ := aK (blk_below (g := gb442) (o := .cells #[.int .i64 a2_0, .int .i64 a2_1] 25 (0, 0)) (by (with_reducible repeat (first | refine bR ?_ | refine bA ?_ _)); exact BK442.out) hb); have n2_ := aK (below_step (by repeat (first | (with_reducible first | exact HB.out | apply hA | apply hN | apply hD | refine below_set ?_ GE441.out | refine below_set ?_ GE442.out) | exact HB.out)) hb); clear BK441; clear BK442; clear HB; have BK441 := n0_; have BK442 := n1_; have HB := n2_; clear n0_ n1_ n2_; (try clear hb); (try clear hb2); (try clear hk); (try clear hi)) | (go_at_call 20; (with_reducible refine (timeboundref08_All.calls  t446 t447 _ A8.out).mono ?_); rintro e w21 ⟨rfl, hb⟩; have n0_ := aK (blk_below (g := gb441) (o := .cells #[.int .i64 a1_0, .int .i64 a1_1] 25 (0, 0)) (by (with_reducible repeat (first | refine bR ?_ | refine bA ?_ _)); exact BK441.out) hb); have n1_ := aK (blk_below (g := gb442) (o := .cells #[.int .i64 a2_0, .int .i64 a2_1] 25 (0, 0)) (by (with_reducible repeat (first | refine bR ?_ | refine bA ?_ _)); exact BK442.out) hb); have n2_ := aK (below_step (by repeat (first | (with_reducible first | exact HB.out | apply hA | apply hN | apply hD | refine below_set ?_ GE441.out | refine below_set ?_ GE442.out) | exact HB.out)) hb); clear BK441; clear BK442; clear HB; have BK441 := n0_; have BK442 := n1_; have HB := n2_; clear n0_ n1_ n2_; (try clear hb); (try clear hb2); (try clear hk); (try clear hi)) | (go_at_call 9; (with_reducible refine (congruence_None.calls  t448 t449 _ A10.out).mono ?_); rintro e w22 ⟨rfl, hb⟩; have n0_ := aK (blk_below (g := gb441) (o := .cells #[.int .i64 a1_0, .int .i64 a1_1] 25 (0, 0)) (by (with_reducible repeat (first | refine bR ?_ | refine bA ?_ _)); exact BK441.out) hb); have n1_ := aK (blk_below (g := gb442) (o := .cells #[.int .i64 a2_0, .int .i64 a2_1] 25 (0, 0)) (by (with_reducible repeat (first | refine bR ?_ | refine bA ?_ _)); exact BK442.out) hb); have n2_ := aK (below_step (by repeat (first | (with_reducible first | exact HB.out | apply hA | apply hN | apply hD | refine below_set ?_ GE441.out | refine below_set ?_ GE442.out) | exact HB.out)) hb); clear BK441; clear BK442; clear HB; have BK441 := n0_; have BK442 := n1_; have HB := n2_; clear n0_ n1_ n2_; (try clear hb); (try clear hb2); (try clear hk); (try clear hi)) | (go_at_call 21; (with_reducible refine (timeboundref08_None.calls  t450 t451 _ A11.out).mono ?_); rintro e w23 ⟨rfl, hb⟩; have n0_ := aK (blk_below (g := gb441) (o := .cells #[.int .i64 a1_0, .int .i64 a1_1] 25 (0, 0)) (by (with_reducible repeat (first | refine bR ?_ | refine bA ?_ _)); exact BK441.out) hb); have n1_ := aK (blk_below (g := gb442) (o := .cells #[.int .i64 a2_0, .int .i64 a2_1] 25 (0, 0)) (by (with_reducible repeat (first | refine bR ?_ | refine bA ?_ _)); exact BK442.out) hb); have n2_ := aK (below_step (by repeat (first | (with_reducible first | exact HB.out | apply hA | apply hN | apply hD | refine below_set ?_ GE441.out | refine below_set ?_ GE442.out) | exact HB.out)) hb); clear BK441; clear BK442; clear HB; have BK441 := n0_; have BK442 := n1_; have HB := n2_; clear n0_ n1_ n2_; (try clear hb); (try clear hb2); (try clear hk); (try clear hi)) | (go_at_call 11; (with_reducible refine (timeboundlaw08_awake.calls k  t452 _ A13.out (Go.Proofs.YtaphfmbloappkaaDoor.TabOK.below hT.out (by repeat (first | (with_reducible first | exact HB.out | apply hA | apply hN | apply hD | refine below_set ?_ GE441.out | refine below_set ?_ GE442.out) | exact HB.out)))).mono ?_); rintro e w24 ⟨rfl, hb⟩; have n0_ := aK (blk_below (g := gb441) (o := .cells #[.int .i64 a1_0, .int .i64 a1_1] 25 (0, 0)) (by (with_reducible repeat (first | refine bR ?_ | refine bA ?_ _)); exact BK441.out) hb); have n1_ := aK (blk_below (g := gb442) (o := .cells #[.int .i64 a2_0, .int .i64 a2_1] 25 (0, 0)) (by (with_reducible repeat (first | refine bR ?_ | refine bA ?_ _)); exact BK442.out) hb); have n2_ := aK (below_step (by repeat (first | (with_reducible first | exact HB.out | apply hA | apply hN | apply hD | refine below_set ?_ GE441.out | refine below_set ?_ GE442.out) | exact HB.out)) hb); clear BK441; clear BK442; clear HB; have BK441 := n0_; have BK442 := n1_; have HB := n2_; clear n0_ n1_ n2_; (try clear hb); (try clear hb2); (try clear hk); (try clear hi)))
       go_ret
       exact ⟨by first | rfl | (simp [errW_none, errW_some] <;> rfl) | (simp [*, errW_none, errW_some] <;> rfl), by repeat (first | (with_reducible first | exact HB.out | apply hA | apply hN | apply hD | refine below_set ?_ GE441.out | refine below_set ?_ GE442.out) | exact HB.out)⟩
     · rw [if_neg c12] at H
       exact absurd H (by simp)
   · rw [if_neg c9] at H
     exact absurd H (by simp)
 · replace c6 := Bool.eq_false_iff.mpr c6
   subst c6
   have H1 : (none) = some r := by rw [if_neg (show ¬ (false = true) by decide)] at H; exact H
   clear H
   have H := H1
   clear H1
   exact absurd H (by simp)
/-! ### timeboundlaw08_CongruenceMade: function 6 -/
def timeboundlaw08_CongruenceMade.f (k : Nat) (a0 : Int) (a1 : Int) (a2 : Int) (a3_0 : Int) (a3_1 : Int) : Option (Bool) := (timeboundlaw08_of.f a1 a3_0).bind fun bt454 => ((timeboundlaw08_of.f a2 a3_1).bind fun bt456 => ((timeboundlaw08_agree.f k (wrap64 (1 + (Int.tmod (wrap64 (a0)) 14))) bt454.1 bt454.2 bt456.1 bt456.2 (wrap64 (a1))).bind fun t458 => (if t458 = true then ((timeboundlaw08_awake.f k).bind fun t459 => (some t459)) else (none))))
theorem timeboundlaw08_CongruenceMade.mono : ∀ a0 a1 a2 a3 a4 k, LeO (timeboundlaw08_CongruenceMade.f k a0 a1 a2 a3 a4) (timeboundlaw08_CongruenceMade.f (k + 1) a0 a1 a2 a3 a4) := by
 intro a0 a1 a2 a3 a4 k
 unfold timeboundlaw08_CongruenceMade.f
 repeat' first
  | (with_reducible exact timeboundlaw08_agree.mono _ _ _ _ _ _ _)
  | (with_reducible exact timeboundlaw08_awake.mono _)
  | (with_reducible exact LeO.refl _)
  | (with_reducible exact LeO.none _)
  | (with_reducible refine LeO.ite ?_ ?_)
  | (with_reducible refine LeO.bind ?_ (fun _ => ?_))
  | exact timeboundlaw08_agree.mono _ _ _ _ _ _ _
  | exact timeboundlaw08_awake.mono _
  | exact LeO.none _
  | refine LeO.ite ?_ ?_
  | refine LeO.bind ?_ (fun _ => ?_)
def timeboundlaw08_CongruenceMade.T1 : Bool × List (List Nat × List Nat) := (true, [([], []), ([0], [0]), ([1], [1]), ([2], [2]), ([], []), ([], []), ([5], [5]), ([4, 6], [4, 6]), ([], []), ([], []), ([9], [9]), ([8, 10, 7], [8, 10]), ([], []), ([12], [12]), ([3, 7, 11, 13, 11], [3, 7, 11, 13]), ([14, 14], [14]), ([15, 15], [15]), ([15, 16], [15, 16]), ([17, 16, 0, 1, 2, 3, 4, 5, 6, 7, 8, 9, 10, 11, 12, 13, 14, 15, 16, 17], [17])])
def timeboundlaw08_CongruenceMade.B1 : List Nat := [0, 1, 3, 7, 0, 0, 32, 112, 0, 0, 512, 2032, 0, 4096, 16383, 32767, 65535, 131071, 262143]
theorem timeboundlaw08_CongruenceMade.tab1 : rtab .any (opsOf Tryd.f6 1) = timeboundlaw08_CongruenceMade.T1 := by kernel_rfl
theorem timeboundlaw08_CongruenceMade.bits1 : waitsOk timeboundlaw08_CongruenceMade.T1.2 timeboundlaw08_CongruenceMade.B1 = true := by kernel_rfl
set_option maxHeartbeats 80000000 in
set_option maxRecDepth 100000 in
theorem timeboundlaw08_CongruenceMade.calls (k : Nat) (a0 : Int) (a1 : Int) (a2 : Int) (a3_0 : Int) (a3_1 : Int) (r : Bool) (w : World) (h : timeboundlaw08_CongruenceMade.f k a0 a1 a2 a3_0 a3_1 = some r) (hT0 : Go.Proofs.YtaphfmbloappkaaDoor.TabOK w) :
 Calls Tryd.prog 6 #[.int .u8 a0, .int .i32 a1, .int .i32 a2, .agg #[.int .u8 a3_0, .int .u8 a3_1]] w fun e w' => e = .returned (.bool r) ∧ Below w.heap.size w w' := by
 have hT := aK hT0
 clear hT0
 have hu22 := Tryd.underlying22
 have HB := aK (Below.refl w.heap.size w)
 have H : ((timeboundlaw08_of.f a1 a3_0).bind fun bt454 => ((timeboundlaw08_of.f a2 a3_1).bind fun bt456 => ((timeboundlaw08_agree.f k (wrap64 (1 + (Int.tmod (wrap64 (a0)) 14))) bt454.1 bt454.2 bt456.1 bt456.2 (wrap64 (a1))).bind fun t458 => (if t458 = true then ((timeboundlaw08_awake.f k).bind fun t459 => (some t459)) else (none))))) = some r := h
 clear h
 replace H := Option.bind_eq_some_iff.mp H
 obtain ⟨⟨t454, t455⟩, A50, H⟩ := H
 replace H : ((timeboundlaw08_of.f a2 a3_1).bind fun bt456 => ((timeboundlaw08_agree.f k (wrap64 (1 + (Int.tmod (wrap64 (a0)) 14))) t454 t455 bt456.1 bt456.2 (wrap64 (a1))).bind fun t458 => (if t458 = true then ((timeboundlaw08_awake.f k).bind fun t459 => (some t459)) else (none)))) = some r := H
 have A5 := aK A50
 clear A50
 replace H := Option.bind_eq_some_iff.mp H
 obtain ⟨⟨t456, t457⟩, A60, H⟩ := H
 replace H : ((timeboundlaw08_agree.f k (wrap64 (1 + (Int.tmod (wrap64 (a0)) 14))) t454 t455 t456 t457 (wrap64 (a1))).bind fun t458 => (if t458 = true then ((timeboundlaw08_awake.f k).bind fun t459 => (some t459)) else (none))) = some r := H
 have A6 := aK A60
 clear A60
 replace H := Option.bind_eq_some_iff.mp H
 obtain ⟨t458, A70, H⟩ := H
 replace H : (if t458 = true then ((timeboundlaw08_awake.f k).bind fun t459 => (some t459)) else (none)) = some r := H
 have A7 := aK A70
 clear A70
 by_cases c8 : t458 = true
 · subst c8
   have H1 : ((timeboundlaw08_awake.f k).bind fun t459 => (some t459)) = some r := by rw [if_pos rfl] at H; exact H
   clear H
   have H := H1
   clear H1
   replace H := Option.bind_eq_some_iff.mp H
   obtain ⟨t459, A90, H⟩ := H
   replace H : (some t459) = some r := H
   have A9 := aK A90
   clear A90
   obtain rfl := Option.some.inj H
   go_enter Tryd.func6, Tryd.ntmps6
   try go_wp2_with (first | ((with_reducible refine gate_dst (N := 7) rfl ?_); refine box_event ?hg (N := 7) ?hd (cs := #[.int .u8 a3_0, .int .u8 a3_1]) (t := 22) ?hr ?_; (case hd => rfl); (case hg => rfl); (case hr => first | (go_simp; done) | (go_simp; rfl)); intro gb453 hg w10 hbox hb; have n0_ := aK (below_step (by repeat (first | (with_reducible first | exact HB.out | apply hA | apply hN | apply hD) | exact HB.out)) hb); have n1_ := aK (hbox); have n2_ := aK ((by rw [hg]; exact (below_size (by repeat (first | (with_reducible first | exact HB.out | apply hA | apply hN | apply hD) | exact HB.out))) : w.heap.size ≤ gb453)); have n3_ := aK ((by rw [hg]; exact (below_size (by repeat (first | (with_reducible first | exact HB.out | apply hA | apply hN | apply hD) | exact HB.out))) : w.heap.size ≤ gb453)); clear HB; have HB := n0_; have BK453 := n1_; have GW453 := n2_; have GE453 := n3_; clear n0_ n1_ n2_ n3_; clear hb hbox hg))
   have n0_ := aK (blk_drew BK453.out)
   have n1_ := aK (below_drew1 HB.out)
   clear BK453
   clear HB
   have BK453 := n0_
   have HB := n1_
   clear n0_ n1_
   refine start_ (n := 19) (S := fun w' => w'.cell? ⟨gb453, 0, none⟩ = some (.int .u8 a3_0) ∧ w'.cell? ⟨gb453, 1, none⟩ = some (.int .u8 a3_1)) (ds := []) #[Z,Z,Z,Z,Z,Z,Z,Z,Z,Z,Z,Z,Z,Z,Z,Z,Z,Z,Z] (by kernel_rfl) rfl rfl ⟨(blk_cell BK453.out 0).trans rfl, (blk_cell BK453.out 1).trans rfl⟩ (fun hHeld => ?_); refine with_tabW timeboundlaw08_CongruenceMade.tab1 timeboundlaw08_CongruenceMade.bits1 (fun HT_ HW_ => ?_)
   generalize w10.drew = w11 at BK453 HB hHeld ⊢
   refine pure_ (i := 0) (N := some 9) (v := ?_) (a' := ?_) #[Y,Z,Z,Z,Z,Z,Z,Z,Z,Z,Z,Z,Z,Z,Z,Z,Z,Z,Z] rfl rfl (any_of HT_.out (by kernel_rfl)) (fun _ _ _ h => h) (Or.inl ⟨by rfl, ?_⟩) ?_ ?_
   rotate_left
   · intro w'
     go_simp
     with_reducible rfl
   rotate_left
   · simp only [Act.put, sA, sB, sC, i64_w, i32_w]
     rfl
   refine pure_ (i := 1) (N := some 10) (v := ?_) (a' := ?_) #[Y,Y,Z,Z,Z,Z,Z,Z,Z,Z,Z,Z,Z,Z,Z,Z,Z,Z,Z] rfl rfl (any_of HT_.out (by kernel_rfl)) (fun _ _ _ h => h) (Or.inl ⟨by rfl, ?_⟩) ?_ ?_
   rotate_left
   · intro w'
     go_simp
     with_reducible rfl
   rotate_left
   · simp only [Act.put, sA, sB, sC, i64_w, i32_w]
     rfl
   refine pure_ (i := 2) (N := some 11) (v := ?_) (a' := ?_) #[Y,Y,Y,Z,Z,Z,Z,Z,Z,Z,Z,Z,Z,Z,Z,Z,Z,Z,Z] rfl rfl (any_of HT_.out (by kernel_rfl)) (fun _ _ _ h => h) (Or.inl ⟨by rfl, ?_⟩) ?_ ?_
   rotate_left
   · intro w'
     go_simp
     with_reducible rfl
   rotate_left
   · simp only [Act.put, sA, sB, sC, i64_w, i32_w]
     rfl
   refine pure_ (i := 3) (N := some 12) (v := ?_) (a' := ?_) #[Y,Y,Y,Y,Z,Z,Z,Z,Z,Z,Z,Z,Z,Z,Z,Z,Z,Z,Z] rfl rfl (any_of HT_.out (by kernel_rfl)) (fun _ _ _ h => h) (Or.inl ⟨by rfl, ?_⟩) ?_ ?_
   rotate_left
   · intro w'
     go_simp
     with_reducible rfl
   rotate_left
   · simp only [Act.put, sA, sB, sC, i64_w, i32_w]
     rfl
   refine pure_ (i := 4) (N := some 13) (v := ?_) (a' := ?_) #[Y,Y,Y,Y,Y,Z,Z,Z,Z,Z,Z,Z,Z,Z,Z,Z,Z,Z,Z] rfl rfl (any_of HT_.out (by kernel_rfl)) (fun _ _ _ h => h) (Or.inl ⟨by rfl, ?_⟩) ?_ ?_
   rotate_left
   · intro w'
     go_simp
     with_reducible rfl
   rotate_left
   · simp only [Act.put, sA, sB, sC, i64_w, i32_w]
     rfl
   refine pure_ (i := 5) (N := some 14) (v := ?_) (a' := ?_) #[Y,Y,Y,Y,Y,Y,Z,Z,Z,Z,Z,Z,Z,Z,Z,Z,Z,Z,Z] rfl rfl (any_of HT_.out (by kernel_rfl)) (fun _ _ _ h => h) (Or.inl ⟨by rfl, ?_⟩) ?_ ?_
   rotate_left
   · intro w'
     go_simp
     with_reducible rfl
   rotate_left
   · simp only [Act.put, sA, sB, sC, i64_w, i32_w]
     rfl
   refine pure_ (i := 8) (N := some 17) (v := ?_) (a' := ?_) #[Y,Y,Y,Y,Y,Y,Z,Z,Y,Z,Z,Z,Z,Z,Z,Z,Z,Z,Z] rfl rfl (any_of HT_.out (by kernel_rfl)) (fun _ _ _ h => h) (Or.inl ⟨by rfl, ?_⟩) ?_ ?_
   rotate_left
   · intro w'
     go_simp
     with_reducible rfl
   rotate_left
   · simp only [Act.put, sA, sB, sC, i64_w, i32_w]
     rfl
   refine pure_ (i := 9) (N := some 18) (v := ?_) (a' := ?_) #[Y,Y,Y,Y,Y,Y,Z,Z,Y,Y,Z,Z,Z,Z,Z,Z,Z,Z,Z] rfl rfl (any_of HT_.out (by kernel_rfl)) (fun _ _ _ h => h) (Or.inl ⟨by rfl, ?_⟩) ?_ ?_
   rotate_left
   · intro w'
     go_simp
     with_reducible rfl
   rotate_left
   · simp only [Act.put, sA, sB, sC, i64_w, i32_w]
     rfl
   refine pure_ (i := 12) (N := some 21) (v := ?_) (a' := ?_) #[Y,Y,Y,Y,Y,Y,Z,Z,Y,Y,Z,Z,Y,Z,Z,Z,Z,Z,Z] rfl rfl (any_of HT_.out (by kernel_rfl)) (fun _ _ _ h => h) (Or.inl ⟨by rfl, ?_⟩) ?_ ?_
   rotate_left
   · intro w'
     go_simp
     with_reducible rfl
   rotate_left
   · simp only [Act.put, sA, sB, sC, i64_w, i32_w]
     rfl
   refine pure_ (i := 13) (N := some 22) (v := ?_) (a' := ?_) #[Y,Y,Y,Y,Y,Y,Z,Z,Y,Y,Z,Z,Y,Y,Z,Z,Z,Z,Z] rfl rfl (any_of HT_.out (by kernel_rfl)) (fun _ _ _ h => h) (Or.inl ⟨by rfl, ?_⟩) ?_ ?_
   rotate_left
   · intro w'
     go_simp
     with_reducible rfl
   rotate_left
   · simp only [Act.put, sA, sB, sC, i64_w, i32_w]
     rfl
   refine take_ (i := 6) (N := some 15) (v := ?_) (a' := ?_) #[Y,Y,Y,Y,Y,Y,Y,Z,Y,Y,Z,Z,Y,Y,Z,Z,Z,Z,Z] rfl rfl (take_ofW HT_.out HW_.out (by kernel_rfl)) (fun _ _ _ h => h) (Or.inl ⟨by rfl, ?_⟩) hHeld ?_ ?_
   rotate_left
   · rintro w' ⟨s0, s1⟩
     go_simp
     with_reducible rfl
   rotate_left
   · simp only [Act.put, sA, sB, sC, i64_w, i32_w]
     rfl
   refine take_ (i := 10) (N := some 19) (v := ?_) (a' := ?_) #[Y,Y,Y,Y,Y,Y,Y,Z,Y,Y,Y,Z,Y,Y,Z,Z,Z,Z,Z] rfl rfl (take_ofW HT_.out HW_.out (by kernel_rfl)) (fun _ _ _ h => h) (Or.inl ⟨by rfl, ?_⟩) hHeld ?_ ?_
   rotate_left
   · rintro w' ⟨s0, s1⟩
     go_simp
     with_reducible rfl
   rotate_left
   · simp only [Act.put, sA, sB, sC, i64_w, i32_w]
     rfl
   refine one_ (i := 7) (N := some 16) #[Y,Y,Y,Y,Y,Y,Y,Y,Y,Y,Y,Z,Y,Y,Z,Z,Z,Z,Z] rfl rfl (one_of HT_.out (by kernel_rfl)) (by decide) (fun K hK => ?_)
   refine goes_ Tryd.func8 (by kernel_rfl) rfl #[.int .i32 a1, .int .u8 a3_0] (by rfl) rfl rfl (by (try simp only [mA, mB, mC]); first | done | rfl) ?_
   with_reducible refine (timeboundlaw08_of.calls a1 a3_0 t454 t455 _ A5.out).mono ?_
   rintro e w12 ⟨rfl, hb⟩
   refine ⟨_, rfl, ?_⟩
   have n0_ := aK (blk_below (g := gb453) (o := .cells #[.int .u8 a3_0, .int .u8 a3_1] 22 (0, 0)) (by (with_reducible repeat (first | refine bR ?_ | refine bA ?_ _)); exact BK453.out) hb)
   have n1_ := aK (below_step (by repeat (first | (with_reducible first | exact HB.out | apply hA | apply hN | apply hD | refine below_set ?_ GE453.out) | exact HB.out)) hb)
   clear BK453
   clear HB
   have BK453 := n0_
   have HB := n1_
   clear n0_ n1_
   (try clear hb)
   (try clear hb2)
   (try clear hk)
   (try clear hi)
   refine hK.out _ _ ⟨(blk_cell BK453.out 0).trans rfl, (blk_cell BK453.out 1).trans rfl⟩ (fun hHeld => ?_)
   clear hK K
   refine norm_ (a' := ?_) ?_ ?_
   rotate_left
   · show Act.put _ (some 16) _ = _
     simp only [Act.put, sA, sB, sC, i64_w, i32_w]
     rfl
   refine one_ (i := 11) (N := some 20) #[Y,Y,Y,Y,Y,Y,Y,Y,Y,Y,Y,Y,Y,Y,Z,Z,Z,Z,Z] rfl rfl (one_of HT_.out (by kernel_rfl)) (by decide) (fun K hK => ?_)
   refine goes_ Tryd.func8 (by kernel_rfl) rfl #[.int .i32 a2, .int .u8 a3_1] (by rfl) rfl rfl (by (try simp only [mA, mB, mC]); first | done | rfl) ?_
   with_reducible refine (timeboundlaw08_of.calls a2 a3_1 t456 t457 _ A6.out).mono ?_
   rintro e w13 ⟨rfl, hb⟩
   refine ⟨_, rfl, ?_⟩
   have n0_ := aK (blk_below (g := gb453) (o := .cells #[.int .u8 a3_0, .int .u8 a3_1] 22 (0, 0)) (by (with_reducible repeat (first | refine bR ?_ | refine bA ?_ _)); exact BK453.out) hb)
   have n1_ := aK (below_step (by repeat (first | (with_reducible first | exact HB.out | apply hA | apply hN | apply hD | refine below_set ?_ GE453.out) | exact HB.out)) hb)
   clear BK453
   clear HB
   have BK453 := n0_
   have HB := n1_
   clear n0_ n1_
   (try clear hb)
   (try clear hb2)
   (try clear hk)
   (try clear hi)
   refine hK.out _ _ ⟨(blk_cell BK453.out 0).trans rfl, (blk_cell BK453.out 1).trans rfl⟩ (fun hHeld => ?_)
   clear hK K
   refine norm_ (a' := ?_) ?_ ?_
   rotate_left
   · show Act.put _ (some 20) _ = _
     simp only [Act.put, sA, sB, sC, i64_w, i32_w]
     rfl
   refine one_ (i := 14) (N := some 23) #[Y,Y,Y,Y,Y,Y,Y,Y,Y,Y,Y,Y,Y,Y,Y,Z,Z,Z,Z] rfl rfl (one_of HT_.out (by kernel_rfl)) (by decide) (fun K hK => ?_)
   refine goes_ Tryd.func18 (by kernel_rfl) rfl #[.int .i64 (wrap64 (1 + (Int.tmod (wrap64 (a0)) 14))), .agg #[.int .i64 t454, .int .i64 t455], .agg #[.int .i64 t456, .int .i64 t457], .int .i64 (wrap64 (a1))] (by rfl) rfl rfl (by (try simp only [mA, mB, mC]); first | done | rfl) ?_
   with_reducible refine (timeboundlaw08_agree.calls k (wrap64 (1 + (Int.tmod (wrap64 (a0)) 14))) t454 t455 t456 t457 (wrap64 (a1)) true _ A7.out (Go.Proofs.YtaphfmbloappkaaDoor.TabOK.below hT.out (by repeat (first | (with_reducible first | exact HB.out | apply hA | apply hN | apply hD | refine below_set ?_ GE453.out) | exact HB.out)))).mono ?_
   rintro e w14 ⟨rfl, hb⟩
   refine ⟨_, rfl, ?_⟩
   have n0_ := aK (blk_below (g := gb453) (o := .cells #[.int .u8 a3_0, .int .u8 a3_1] 22 (0, 0)) (by (with_reducible repeat (first | refine bR ?_ | refine bA ?_ _)); exact BK453.out) hb)
   have n1_ := aK (below_step (by repeat (first | (with_reducible first | exact HB.out | apply hA | apply hN | apply hD | refine below_set ?_ GE453.out) | exact HB.out)) hb)
   clear BK453
   clear HB
   have BK453 := n0_
   have HB := n1_
   clear n0_ n1_
   (try clear hb)
   (try clear hb2)
   (try clear hk)
   (try clear hi)
   refine hK.out _ _ ⟨(blk_cell BK453.out 0).trans rfl, (blk_cell BK453.out 1).trans rfl⟩ (fun hHeld => ?_)
   clear hK K
   refine norm_ (a' := ?_) ?_ ?_
   rotate_left
   · show Act.put _ (some 23) _ = _
     simp only [Act.put, sA, sB, sC, i64_w, i32_w]
     rfl
   refine pure_ (i := 15) (N := some 24) (v := ?_) (a' := ?_) #[Y,Y,Y,Y,Y,Y,Y,Y,Y,Y,Y,Y,Y,Y,Y,Y,Z,Z,Z] rfl rfl (any_of HT_.out (by kernel_rfl)) (fun _ _ _ h => h) (Or.inl ⟨by rfl, ?_⟩) ?_ ?_
   rotate_left
   · intro w'
     go_simp
     with_reducible rfl
   rotate_left
   · simp only [Act.put, sA, sB, sC, i64_w, i32_w]
     rfl
   refine one_ (i := 16) (N := some 25) #[Y,Y,Y,Y,Y,Y,Y,Y,Y,Y,Y,Y,Y,Y,Y,Y,Y,Z,Z] rfl rfl (one_of HT_.out (by kernel_rfl)) (by decide) (fun K hK => ?_)
   refine goes_ Tryd.func11 (by kernel_rfl) rfl #[] (by rfl) rfl rfl (by (try simp only [mA, mB, mC]); first | done | rfl) ?_
   with_reducible refine (timeboundlaw08_awake.calls k  t459 _ A9.out (Go.Proofs.YtaphfmbloappkaaDoor.TabOK.below hT.out (by repeat (first | (with_reducible first | exact HB.out | apply hA | apply hN | apply hD | refine below_set ?_ GE453.out) | exact HB.out)))).mono ?_
   rintro e w15 ⟨rfl, hb⟩
   refine ⟨_, rfl, ?_⟩
   have n0_ := aK (blk_below (g := gb453) (o := .cells #[.int .u8 a3_0, .int .u8 a3_1] 22 (0, 0)) (by (with_reducible repeat (first | refine bR ?_ | refine bA ?_ _)); exact BK453.out) hb)
   have n1_ := aK (below_step (by repeat (first | (with_reducible first | exact HB.out | apply hA | apply hN | apply hD | refine below_set ?_ GE453.out) | exact HB.out)) hb)
   clear BK453
   clear HB
   have BK453 := n0_
   have HB := n1_
   clear n0_ n1_
   (try clear hb)
   (try clear hb2)
   (try clear hk)
   (try clear hi)
   refine hK.out _ _ ⟨(blk_cell BK453.out 0).trans rfl, (blk_cell BK453.out 1).trans rfl⟩ (fun hHeld => ?_)
   clear hK K
   refine norm_ (a' := ?_) ?_ ?_
   rotate_left
   · show Act.put _ (some 25) _ = _
     simp only [Act.put, sA, sB, sC, i64_w, i32_w]
     rfl
   refine pure_ (i := 17) (N := some 26) (v := ?_) (a' := ?_) #[Y,Y,Y,Y,Y,Y,Y,Y,Y,Y,Y,Y,Y,Y,Y,Y,Y,Y,Z] rfl rfl (any_of HT_.out (by kernel_rfl)) (fun _ _ _ h => h) (Or.inl ⟨by rfl, ?_⟩) ?_ ?_
   rotate_left
   · intro w'
     go_simp
     with_reducible rfl
   rotate_left
   · simp only [Act.put, sA, sB, sC, i64_w, i32_w]
     rfl
   refine pure_ (i := 18) (N := some 8) (v := ?_) (a' := ?_) #[Y,Y,Y,Y,Y,Y,Y,Y,Y,Y,Y,Y,Y,Y,Y,Y,Y,Y,Y] rfl rfl (any_of HT_.out (by kernel_rfl)) (fun _ _ _ h => h) (Or.inl ⟨by rfl, ?_⟩) ?_ ?_
   rotate_left
   · intro w'
     go_simp
     with_reducible rfl
   rotate_left
   · simp only [Act.put, sA, sB, sC, i64_w, i32_w]
     rfl
   refine done_ (done_of HT_.out (by kernel_rfl)) ?_
   try go_wp2
   go_ret
   exact ⟨by first | rfl | (simp [errW_none, errW_some] <;> rfl) | (simp [*, errW_none, errW_some] <;> rfl), by repeat (first | (with_reducible first | exact HB.out | apply hA | apply hN | apply hD | refine below_set ?_ GE453.out) | exact HB.out)⟩
 · replace c8 := Bool.eq_false_iff.mpr c8
   subst c8
   have H1 : (none) = some r := by rw [if_neg (show ¬ (false = true) by decide)] at H; exact H
   clear H
   have H := H1
   clear H1
   exact absurd H (by simp)
end Go.Proofs.YtaphfmbloappkaaDoorG.PAll
