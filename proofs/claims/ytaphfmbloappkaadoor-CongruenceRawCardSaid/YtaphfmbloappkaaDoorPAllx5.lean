-- The walks of some functions, printed by a program for this claim.
import Derived.Test.YtaphfmbloappkaaDoorPAllx0
import Derived.Test.YtaphfmbloappkaaDoorPAllx1
import Derived.Test.YtaphfmbloappkaaDoorPAllx2
import Derived.Test.YtaphfmbloappkaaDoorPAllx3
import Derived.Test.YtaphfmbloappkaaDoorPAllx4
namespace Go.Proofs.YtaphfmbloappkaaDoorG.PAll
open Go.RowKit Go.Proofs.YtaphfmbloappkaaDoorW.PrintWords Go.Proofs.YtaphfmbloappkaaDoorW.PrintLast Go.Proofs.YtaphfmbloappkaaDoorW.PrintMore
attribute [local go_sem] max2_int min2_int max_two min_two max_three min_three max_four min_four   -- for this text's walks alone
set_option linter.unusedVariables false
set_option linter.unusedSimpArgs false
attribute [local go_sem high] eqA25
/-! ### timeboundlaw08_awake: function 11 -/
def timeboundlaw08_awake.f (k : Nat)  : Option (Bool) := (congruence_Of.f 3).bind fun bt172 => ((congruence_Of.f 11).bind fun bt174 => ((congruence_Join.f k bt172.1 bt172.2 bt174.1 bt174.2).bind fun bt176 => (if (bt176.1 == 8 && (bt176.2 == 3)) = true then ((congruence_Do.f k 1 4 1 2 1).bind fun bt178 => (some (bt178.1 == 2 && (bt178.2 == 0)))) else (some false))))
theorem timeboundlaw08_awake.mono : ∀ k, LeO (timeboundlaw08_awake.f k ) (timeboundlaw08_awake.f (k + 1) ) := by
 intro  k
 unfold timeboundlaw08_awake.f
 repeat' first
  | (with_reducible exact congruence_Do.mono _ _ _ _ _ _)
  | (with_reducible exact congruence_Join.mono _ _ _ _ _)
  | (with_reducible exact LeO.refl _)
  | (with_reducible exact LeO.none _)
  | (with_reducible refine LeO.ite ?_ ?_)
  | (with_reducible refine LeO.bind ?_ (fun _ => ?_))
  | exact congruence_Do.mono _ _ _ _ _ _
  | exact congruence_Join.mono _ _ _ _ _
  | exact LeO.none _
  | refine LeO.ite ?_ ?_
  | refine LeO.bind ?_ (fun _ => ?_)
set_option maxHeartbeats 80000000 in
set_option maxRecDepth 100000 in
theorem timeboundlaw08_awake.calls (k : Nat)  (r : Bool) (w : World) (h : timeboundlaw08_awake.f k  = some r) (hT0 : Go.Proofs.YtaphfmbloappkaaDoor.TabOK w) :
 Calls Tryd.prog 11 #[] w fun e w' => e = .returned (.bool r) ∧ Below w.heap.size w w' := by
 have hT := aK hT0
 clear hT0
 have hu25 := Tryd.underlying25
 have HB := aK (Below.refl w.heap.size w)
 have H : ((congruence_Of.f 3).bind fun bt172 => ((congruence_Of.f 11).bind fun bt174 => ((congruence_Join.f k bt172.1 bt172.2 bt174.1 bt174.2).bind fun bt176 => (if (bt176.1 == 8 && (bt176.2 == 3)) = true then ((congruence_Do.f k 1 4 1 2 1).bind fun bt178 => (some (bt178.1 == 2 && (bt178.2 == 0)))) else (some false))))) = some r := h
 clear h
 replace H := Option.bind_eq_some_iff.mp H
 obtain ⟨⟨t172, t173⟩, A10, H⟩ := H
 replace H : ((congruence_Of.f 11).bind fun bt174 => ((congruence_Join.f k t172 t173 bt174.1 bt174.2).bind fun bt176 => (if (bt176.1 == 8 && (bt176.2 == 3)) = true then ((congruence_Do.f k 1 4 1 2 1).bind fun bt178 => (some (bt178.1 == 2 && (bt178.2 == 0)))) else (some false)))) = some r := H
 have A1 := aK A10
 clear A10
 replace H := Option.bind_eq_some_iff.mp H
 obtain ⟨⟨t174, t175⟩, A20, H⟩ := H
 replace H : ((congruence_Join.f k t172 t173 t174 t175).bind fun bt176 => (if (bt176.1 == 8 && (bt176.2 == 3)) = true then ((congruence_Do.f k 1 4 1 2 1).bind fun bt178 => (some (bt178.1 == 2 && (bt178.2 == 0)))) else (some false))) = some r := H
 have A2 := aK A20
 clear A20
 replace H := Option.bind_eq_some_iff.mp H
 obtain ⟨⟨t176, t177⟩, A30, H⟩ := H
 replace H : (if (t176 == 8 && (t177 == 3)) = true then ((congruence_Do.f k 1 4 1 2 1).bind fun bt178 => (some (bt178.1 == 2 && (bt178.2 == 0)))) else (some false)) = some r := H
 have A3 := aK A30
 clear A30
 by_cases c4 : (t176 == 8 && (t177 == 3)) = true
 · rw [if_pos c4] at H
   have c4b0 : (t176 == 8 && (t177 == 3)) = true := c4
   (try (have c4b1 : decide (t176 = 8 && (t177 == 3)) = true := by simpa using c4))
   (try (have c4b2 : (t176 == 8 && (t177 == 3)) = true := by simpa using c4))
   clear c4
   replace H := Option.bind_eq_some_iff.mp H
   obtain ⟨⟨t178, t179⟩, A50, H⟩ := H
   replace H : (some (t178 == 2 && (t179 == 0))) = some r := H
   have A5 := aK A50
   clear A50
   obtain rfl := Option.some.inj H
   go_enter Tryd.func11, Tryd.ntmps11
   go_wp2_with (first | ((with_reducible refine gate_callee (f := 16) rfl ?_); refine goesL_ (some 1) rfl rfl Tryd.func16 (by kernel_rfl) rfl #[.int .i64 3] rfl (by (try simp only [mA, mB, mC]); first | done | rfl) ?_; (with_reducible refine (congruence_Of.calls 3 t172 t173 _ A1.out).mono ?_); rintro e w6 ⟨rfl, hb⟩; refine ⟨_, rfl, ?_⟩; have n0_ := aK (below_step (by repeat (first | (with_reducible first | exact HB.out | apply hA | apply hN | apply hD) | exact HB.out)) hb); clear HB; have HB := n0_; clear n0_; (try clear hb); (try clear hb2); (try clear hk); (try clear hi)) | ((with_reducible refine gate_callee (f := 16) rfl ?_); refine goesL_ (some 2) rfl rfl Tryd.func16 (by kernel_rfl) rfl #[.int .i64 11] rfl (by (try simp only [mA, mB, mC]); first | done | rfl) ?_; (with_reducible refine (congruence_Of.calls 11 t174 t175 _ A2.out).mono ?_); rintro e w7 ⟨rfl, hb⟩; refine ⟨_, rfl, ?_⟩; have n0_ := aK (below_step (by repeat (first | (with_reducible first | exact HB.out | apply hA | apply hN | apply hD) | exact HB.out)) hb); clear HB; have HB := n0_; clear n0_; (try clear hb); (try clear hb2); (try clear hk); (try clear hi)) | ((with_reducible refine gate_callee (f := 22) rfl ?_); refine goesL_ (some 3) rfl rfl Tryd.func22 (by kernel_rfl) rfl #[.agg #[.int .i64 t172, .int .i64 t173], .agg #[.int .i64 t174, .int .i64 t175]] rfl (by (try simp only [mA, mB, mC]); first | done | rfl) ?_; (with_reducible refine (congruence_Join.calls k t172 t173 t174 t175 t176 t177 _ A3.out (Go.Proofs.YtaphfmbloappkaaDoor.TabOK.below hT.out (by repeat (first | (with_reducible first | exact HB.out | apply hA | apply hN | apply hD) | exact HB.out)))).mono ?_); rintro e w8 ⟨rfl, hb⟩; refine ⟨_, rfl, ?_⟩; have n0_ := aK (below_step (by repeat (first | (with_reducible first | exact HB.out | apply hA | apply hN | apply hD) | exact HB.out)) hb); clear HB; have HB := n0_; clear n0_; (try clear hb); (try clear hb2); (try clear hk); (try clear hi)) | (go_at_call 10; (with_reducible refine (congruence_Do.calls k 1 4 1 2 1 t178 t179 _ A5.out (Go.Proofs.YtaphfmbloappkaaDoor.TabOK.below hT.out (by repeat (first | (with_reducible first | exact HB.out | apply hA | apply hN | apply hD) | exact HB.out)))).mono ?_); rintro e w9 ⟨rfl, hb⟩; have n0_ := aK (below_step (by repeat (first | (with_reducible first | exact HB.out | apply hA | apply hN | apply hD) | exact HB.out)) hb); clear HB; have HB := n0_; clear n0_; (try clear hb); (try clear hb2); (try clear hk); (try clear hi)))
   go_ret
   exact ⟨by first | rfl | (simp [errW_none, errW_some] <;> rfl) | (simp [*, errW_none, errW_some] <;> rfl), by repeat (first | (with_reducible first | exact HB.out | apply hA | apply hN | apply hD) | exact HB.out)⟩
 · rw [if_neg c4] at H
   have c4b0 : (t176 == 8 && (t177 == 3)) = false := by simpa using c4
   (try (have c4b1 : decide (t176 = 8 && (t177 == 3)) = false := by simpa using c4))
   (try (have c4b2 : (t176 == 8 && (t177 == 3)) = false := by simpa using c4))
   (try (have c4b3 : ¬ (t176 = 8 && (t177 == 3)) := by simpa using c4))
   clear c4
   obtain rfl := Option.some.inj H
   go_enter Tryd.func11, Tryd.ntmps11
   go_wp2_with (first | ((with_reducible refine gate_callee (f := 16) rfl ?_); refine goesL_ (some 1) rfl rfl Tryd.func16 (by kernel_rfl) rfl #[.int .i64 3] rfl (by (try simp only [mA, mB, mC]); first | done | rfl) ?_; (with_reducible refine (congruence_Of.calls 3 t172 t173 _ A1.out).mono ?_); rintro e w10 ⟨rfl, hb⟩; refine ⟨_, rfl, ?_⟩; have n0_ := aK (below_step (by repeat (first | (with_reducible first | exact HB.out | apply hA | apply hN | apply hD) | exact HB.out)) hb); clear HB; have HB := n0_; clear n0_; (try clear hb); (try clear hb2); (try clear hk); (try clear hi)) | ((with_reducible refine gate_callee (f := 16) rfl ?_); refine goesL_ (some 2) rfl rfl Tryd.func16 (by kernel_rfl) rfl #[.int .i64 11] rfl (by (try simp only [mA, mB, mC]); first | done | rfl) ?_; (with_reducible refine (congruence_Of.calls 11 t174 t175 _ A2.out).mono ?_); rintro e w11 ⟨rfl, hb⟩; refine ⟨_, rfl, ?_⟩; have n0_ := aK (below_step (by repeat (first | (with_reducible first | exact HB.out | apply hA | apply hN | apply hD) | exact HB.out)) hb); clear HB; have HB := n0_; clear n0_; (try clear hb); (try clear hb2); (try clear hk); (try clear hi)) | ((with_reducible refine gate_callee (f := 22) rfl ?_); refine goesL_ (some 3) rfl rfl Tryd.func22 (by kernel_rfl) rfl #[.agg #[.int .i64 t172, .int .i64 t173], .agg #[.int .i64 t174, .int .i64 t175]] rfl (by (try simp only [mA, mB, mC]); first | done | rfl) ?_; (with_reducible refine (congruence_Join.calls k t172 t173 t174 t175 t176 t177 _ A3.out (Go.Proofs.YtaphfmbloappkaaDoor.TabOK.below hT.out (by repeat (first | (with_reducible first | exact HB.out | apply hA | apply hN | apply hD) | exact HB.out)))).mono ?_); rintro e w12 ⟨rfl, hb⟩; refine ⟨_, rfl, ?_⟩; have n0_ := aK (below_step (by repeat (first | (with_reducible first | exact HB.out | apply hA | apply hN | apply hD) | exact HB.out)) hb); clear HB; have HB := n0_; clear n0_; (try clear hb); (try clear hb2); (try clear hk); (try clear hi)))
   go_ret
   exact ⟨by first | rfl | (simp [errW_none, errW_some] <;> rfl) | (simp [*, errW_none, errW_some] <;> rfl), by repeat (first | (with_reducible first | exact HB.out | apply hA | apply hN | apply hD) | exact HB.out)⟩
/-! ### timeboundref01_Wrap: function 28 -/
def timeboundref01_Wrap.f (a0 : Int) : Option (Int) := some (wrap64 (wrap32 ((IntKind.u64.wrap (a0)) % 4294967296)))
set_option maxHeartbeats 80000000 in
set_option maxRecDepth 100000 in
theorem timeboundref01_Wrap.calls (a0 : Int) (r : Int) (w : World) (h : timeboundref01_Wrap.f a0 = some r) :
 Calls Tryd.prog 28 #[.int .i64 a0] w fun e w' => e = .returned (.int .i64 r) ∧ Drawn0 w w' := by
 have H : (some (wrap64 (wrap32 ((IntKind.u64.wrap (a0)) % 4294967296)))) = some r := h
 clear h
 obtain rfl := Option.some.inj H
 go_enter Tryd.func28, Tryd.ntmps28
 go_wp2
 go_ret
 exact ⟨by first | rfl | (simp; done) | (simp [*]; done), by repeat (first | exact Drawn0.refl _ | apply Drawn0.step)⟩
/-! ### timeboundlaw08_member: function 12 -/
def timeboundlaw08_member.f (a0_0 : Int) (a0_1 : Int) (a1 : Int) : Option (Int) := if a0_0 = 0 then (some a0_1) else ((timeboundref01_Wrap.f (wrap64 (a0_1 + (wrap64 (a0_0 * (wrap64 (a1))))))).bind fun t181 => (some t181))
set_option maxHeartbeats 80000000 in
set_option maxRecDepth 100000 in
theorem timeboundlaw08_member.calls (a0_0 : Int) (a0_1 : Int) (a1 : Int) (r : Int) (w : World) (h : timeboundlaw08_member.f a0_0 a0_1 a1 = some r) :
 Calls Tryd.prog 12 #[.agg #[.int .i64 a0_0, .int .i64 a0_1], .int .u32 a1] w fun e w' => e = .returned (.int .i64 r) ∧ Below w.heap.size w w' := by
 have hu25 := Tryd.underlying25
 have HB := aK (Below.refl w.heap.size w)
 have H : (if a0_0 = 0 then (some a0_1) else ((timeboundref01_Wrap.f (wrap64 (a0_1 + (wrap64 (a0_0 * (wrap64 (a1))))))).bind fun t181 => (some t181))) = some r := h
 clear h
 by_cases c3 : a0_0 = 0
 · rw [if_pos c3] at H
   have c3b0 : (a0_0 == 0) = true := beq_iff_eq.mpr c3
   have c3b1 : (a0_0 != 0) = false := bne_eq_false_iff_eq.mpr c3
   clear c3
   obtain rfl := Option.some.inj H
   go_enter Tryd.func12, Tryd.ntmps12
   go_wp2_with (first | ((with_reducible refine gate_dst (N := 2) rfl ?_); refine box_event ?hg (N := 2) ?hd (cs := #[.int .i64 a0_0, .int .i64 a0_1]) (t := 25) ?hr ?_; (case hd => rfl); (case hg => rfl); (case hr => first | (go_simp; done) | (go_simp; rfl)); intro gb180 hg w4 hbox hb; have n0_ := aK (below_step (by repeat (first | (with_reducible first | exact HB.out | apply hA | apply hN | apply hD) | exact HB.out)) hb); have n1_ := aK (hbox); have n2_ := aK ((by rw [hg]; exact (below_size (by repeat (first | (with_reducible first | exact HB.out | apply hA | apply hN | apply hD) | exact HB.out))) : w.heap.size ≤ gb180)); have n3_ := aK ((by rw [hg]; exact (below_size (by repeat (first | (with_reducible first | exact HB.out | apply hA | apply hN | apply hD) | exact HB.out))) : w.heap.size ≤ gb180)); clear HB; have HB := n0_; have BK180 := n1_; have GW180 := n2_; have GE180 := n3_; clear n0_ n1_ n2_ n3_; clear hb hbox hg; have hcz5_0 : w4.cell? ⟨gb180, 0, none⟩ = some (.int .i64 a0_0) := (blk_cell BK180.out 0).trans rfl; have hcz5_1 : w4.cell? ⟨gb180, 1, none⟩ = some (.int .i64 a0_1) := (blk_cell BK180.out 1).trans rfl; have hfz5_0 := blk_frozen BK180.out 0; have hfz5_1 := blk_frozen BK180.out 1))
   go_ret
   exact ⟨by first | rfl | (simp [errW_none, errW_some] <;> rfl) | (simp [*, errW_none, errW_some] <;> rfl), by repeat (first | (with_reducible first | exact HB.out | apply hA | apply hN | apply hD | refine below_set ?_ GE180.out) | exact HB.out)⟩
 · rw [if_neg c3] at H
   have c3b0 : (a0_0 == 0) = false := beq_eq_false_iff_ne.mpr c3
   have c3b1 : (a0_0 != 0) = true := bne_iff_ne.mpr c3
   replace H := Option.bind_eq_some_iff.mp H
   obtain ⟨t181, A60, H⟩ := H
   replace H : (some t181) = some r := H
   have A6 := aK A60
   clear A60
   obtain rfl := Option.some.inj H
   go_enter Tryd.func12, Tryd.ntmps12
   go_wp2_with (first | ((with_reducible refine gate_dst (N := 2) rfl ?_); refine box_event ?hg (N := 2) ?hd (cs := #[.int .i64 a0_0, .int .i64 a0_1]) (t := 25) ?hr ?_; (case hd => rfl); (case hg => rfl); (case hr => first | (go_simp; done) | (go_simp; rfl)); intro gb180 hg w7 hbox hb; have n0_ := aK (below_step (by repeat (first | (with_reducible first | exact HB.out | apply hA | apply hN | apply hD) | exact HB.out)) hb); have n1_ := aK (hbox); have n2_ := aK ((by rw [hg]; exact (below_size (by repeat (first | (with_reducible first | exact HB.out | apply hA | apply hN | apply hD) | exact HB.out))) : w.heap.size ≤ gb180)); have n3_ := aK ((by rw [hg]; exact (below_size (by repeat (first | (with_reducible first | exact HB.out | apply hA | apply hN | apply hD) | exact HB.out))) : w.heap.size ≤ gb180)); clear HB; have HB := n0_; have BK180 := n1_; have GW180 := n2_; have GE180 := n3_; clear n0_ n1_ n2_ n3_; clear hb hbox hg; have hcz8_0 : w7.cell? ⟨gb180, 0, none⟩ = some (.int .i64 a0_0) := (blk_cell BK180.out 0).trans rfl; have hcz8_1 : w7.cell? ⟨gb180, 1, none⟩ = some (.int .i64 a0_1) := (blk_cell BK180.out 1).trans rfl; have hfz8_0 := blk_frozen BK180.out 0; have hfz8_1 := blk_frozen BK180.out 1) | ((with_reducible refine gate_callee (f := 28) rfl ?_); refine goesL_ (some 18) rfl rfl Tryd.func28 (by kernel_rfl) rfl #[.int .i64 (wrap64 (a0_1 + (wrap64 (a0_0 * (wrap64 (a1))))))] rfl (by (try simp only [mA, mB, mC]); first | done | rfl) ?_; (with_reducible refine (timeboundref01_Wrap.calls (wrap64 (a0_1 + (wrap64 (a0_0 * (wrap64 (a1)))))) t181 _ A6.out).mono ?_); rintro e w' ⟨rfl, ⟨nd, rfl⟩⟩; refine ⟨_, rfl, ?_⟩))
   go_ret
   exact ⟨by first | rfl | (simp [errW_none, errW_some] <;> rfl) | (simp [*, errW_none, errW_some] <;> rfl), by repeat (first | (with_reducible first | exact HB.out | apply hA | apply hN | apply hD | refine below_set ?_ GE180.out) | exact HB.out)⟩
/-! ### congruence_Has: function 14 -/
def congruence_Has.j0 : Nat → Int → Bool → Int → Int → Option (Bool)
 | 0, _, _, _, _ => none
 | k + 1, x1, x7, x183000, x183001 => if x7 = true then (some false) else (if x183000 = 0 then (some (x1 == x183001)) else (some ((Int.tmod (wrap64 (x1 - x183001)) x183000) == 0)))
def congruence_Has.f (k : Nat) (a0_0 : Int) (a0_1 : Int) (a1 : Int) : Option (Bool) := (congruence_Fix.f a0_0 a0_1).bind fun bt183 => ((word_Is.f a1).bind fun t185 => (if t185 = true then ((congruence_None.f).bind fun bt186 => (congruence_Has.j0 k a1 (bt183.1 == bt186.1 && (bt183.2 == bt186.2)) bt183.1 bt183.2)) else (congruence_Has.j0 k a1 true bt183.1 bt183.2)))
theorem congruence_Has.mono_l : ∀ k, (∀ y0 y1 y2 y3, LeO (congruence_Has.j0 k y0 y1 y2 y3) (congruence_Has.j0 (k + 1) y0 y1 y2 y3))
 | 0 => fun _ _ _ _ r h => by simp [congruence_Has.j0] at h
 | k + 1 => by
  have ih0 := congruence_Has.mono_l k
  · intro y0 y1 y2 y3
    unfold congruence_Has.j0
    repeat' first
    | (with_reducible exact ih0 _ _ _ _)
    | (with_reducible exact LeO.refl _)
    | (with_reducible exact LeO.none _)
    | (with_reducible refine LeO.ite ?_ ?_)
    | (with_reducible refine LeO.bind ?_ (fun _ => ?_))
    | exact ih0 _ _ _ _
    | exact LeO.none _
    | refine LeO.ite ?_ ?_
    | refine LeO.bind ?_ (fun _ => ?_)
theorem congruence_Has.mono : ∀ a0 a1 a2 k, LeO (congruence_Has.f k a0 a1 a2) (congruence_Has.f (k + 1) a0 a1 a2) := by
 intro a0 a1 a2 k
 have ih0 := congruence_Has.mono_l k
 unfold congruence_Has.f
 repeat' first
  | (with_reducible exact ih0 _ _ _ _)
  | (with_reducible exact LeO.refl _)
  | (with_reducible exact LeO.none _)
  | (with_reducible refine LeO.ite ?_ ?_)
  | (with_reducible refine LeO.bind ?_ (fun _ => ?_))
  | exact ih0 _ _ _ _
  | exact LeO.none _
  | refine LeO.ite ?_ ?_
  | refine LeO.bind ?_ (fun _ => ?_)
def congruence_Has.T2 : Bool × List (List Nat × List Nat) := (true, [([], []), ([0], [0]), ([1], [1]), ([2, 1], [2]), ([3], [3]), ([3, 3], [3]), ([4, 5, 3], [3, 4, 5]), ([3, 6], [3, 6]), ([7, 5], [7])])
def congruence_Has.B2 : List Nat := [0, 1, 3, 7, 15, 15, 63, 127, 255]
theorem congruence_Has.tab2 : rtab .any (opsOf Tryd.f14 2) = congruence_Has.T2 := by kernel_rfl
theorem congruence_Has.bits2 : waitsOk congruence_Has.T2.2 congruence_Has.B2 = true := by kernel_rfl
set_option maxHeartbeats 80000000 in
set_option maxRecDepth 100000 in
theorem congruence_Has.calls (k : Nat) (a0_0 : Int) (a0_1 : Int) (a1 : Int) (r : Bool) (w : World) (h : congruence_Has.f k a0_0 a0_1 a1 = some r) :
 Calls Tryd.prog 14 #[.agg #[.int .i64 a0_0, .int .i64 a0_1], .int .i64 a1] w fun e w' => e = .returned (.bool r) ∧ Below w.heap.size w w' := by
 have hu25 := Tryd.underlying25
 have HB := aK (Below.refl w.heap.size w)
 have H : ((congruence_Fix.f a0_0 a0_1).bind fun bt183 => ((word_Is.f a1).bind fun t185 => (if t185 = true then ((congruence_None.f).bind fun bt186 => (congruence_Has.j0 k a1 (bt183.1 == bt186.1 && (bt183.2 == bt186.2)) bt183.1 bt183.2)) else (congruence_Has.j0 k a1 true bt183.1 bt183.2)))) = some r := h
 clear h
 replace H := Option.bind_eq_some_iff.mp H
 obtain ⟨⟨t183, t184⟩, A30, H⟩ := H
 replace H : ((word_Is.f a1).bind fun t185 => (if t185 = true then ((congruence_None.f).bind fun bt186 => (congruence_Has.j0 k a1 (t183 == bt186.1 && (t184 == bt186.2)) t183 t184)) else (congruence_Has.j0 k a1 true t183 t184))) = some r := H
 have A3 := aK A30
 clear A30
 have HC4 := aK H
 clear H
 go_enter Tryd.func14, Tryd.ntmps14
 go_upto_region 2 with (first | ((with_reducible refine gate_dst (N := 2) rfl ?_); refine box_event ?hg (N := 2) ?hd (cs := #[.int .i64 a0_0, .int .i64 a0_1]) (t := 25) ?hr ?_; (case hd => rfl); (case hg => rfl); (case hr => first | (go_simp; done) | (go_simp; rfl)); intro gb182 hg w5 hbox hb; have n0_ := aK (below_step (by repeat (first | (with_reducible first | exact HB.out | apply hA | apply hN | apply hD) | exact HB.out)) hb); have n1_ := aK (hbox); have n2_ := aK ((by rw [hg]; exact (below_size (by repeat (first | (with_reducible first | exact HB.out | apply hA | apply hN | apply hD) | exact HB.out))) : w.heap.size ≤ gb182)); have n3_ := aK ((by rw [hg]; exact (below_size (by repeat (first | (with_reducible first | exact HB.out | apply hA | apply hN | apply hD) | exact HB.out))) : w.heap.size ≤ gb182)); clear HB; have HB := n0_; have BK182 := n1_; have GW182 := n2_; have GE182 := n3_; clear n0_ n1_ n2_ n3_; clear hb hbox hg; have hcz6_0 : w5.cell? ⟨gb182, 0, none⟩ = some (.int .i64 a0_0) := (blk_cell BK182.out 0).trans rfl; have hcz6_1 : w5.cell? ⟨gb182, 1, none⟩ = some (.int .i64 a0_1) := (blk_cell BK182.out 1).trans rfl; have hfz6_0 := blk_frozen BK182.out 0; have hfz6_1 := blk_frozen BK182.out 1) | ((with_reducible refine gate_callee (f := 24) rfl ?_); refine goesL_ (some 6) rfl rfl Tryd.func24 (by kernel_rfl) rfl #[.agg #[.int .i64 a0_0, .int .i64 a0_1]] rfl (by (try simp only [mA, mB, mC]); first | done | rfl) ?_; (with_reducible refine (congruence_Fix.calls a0_0 a0_1 t183 t184 _ A3.out).mono ?_); rintro e w7 ⟨rfl, hb⟩; refine ⟨_, rfl, ?_⟩; have n0_ := aK (blk_below (g := gb182) (o := .cells #[.int .i64 a0_0, .int .i64 a0_1] 25 (0, 0)) (by (with_reducible repeat (first | refine bR ?_ | refine bA ?_ _)); exact BK182.out) hb); have n1_ := aK (below_step (by repeat (first | (with_reducible first | exact HB.out | apply hA | apply hN | apply hD | refine below_set ?_ GE182.out) | exact HB.out)) hb); clear BK182; clear HB; have BK182 := n0_; have HB := n1_; clear n0_ n1_; (try clear hb); (try clear hb2); (try clear hk); (try clear hi); have hcz8_0 : w7.cell? ⟨gb182, 0, none⟩ = some (.int .i64 a0_0) := (blk_cell BK182.out 0).trans rfl; have hcz8_1 : w7.cell? ⟨gb182, 1, none⟩ = some (.int .i64 a0_1) := (blk_cell BK182.out 1).trans rfl; have hfz8_0 := blk_frozen BK182.out 0; have hfz8_1 := blk_frozen BK182.out 1))
 (try simp only [Act.put, sA, sB, sC])
 go_cut [7] (fun v7 wc => ∃ (kq : Nat) (x7_3 : Bool), v7 = .bool x7_3 ∧ Aside0 (congruence_Has.j0 kq a1 x7_3 t183 t184 = some r) ∧ Aside0 (kq ≤ k) ∧ Aside0 (wc.heap[gb182]? = some (.cells #[.int .i64 t183, .int .i64 t184] 25 (0, 0))) ∧ Aside0 (Below w.heap.size w wc))
 case first =>
  have H := HC4.out
  clear HC4
  replace H := Option.bind_eq_some_iff.mp H
  obtain ⟨t185, A90, H⟩ := H
  replace H : (if t185 = true then ((congruence_None.f).bind fun bt186 => (congruence_Has.j0 k a1 (t183 == bt186.1 && (t184 == bt186.2)) t183 t184)) else (congruence_Has.j0 k a1 true t183 t184)) = some r := H
  have A9 := aK A90
  clear A90
  by_cases c10 : t185 = true
  · subst c10
    have H1 : ((congruence_None.f).bind fun bt186 => (congruence_Has.j0 k a1 (t183 == bt186.1 && (t184 == bt186.2)) t183 t184)) = some r := by rw [if_pos rfl] at H; exact H
    clear H
    have H := H1
    clear H1
    replace H := Option.bind_eq_some_iff.mp H
    obtain ⟨⟨t186, t187⟩, A110, H⟩ := H
    replace H : (congruence_Has.j0 k a1 (t183 == t186 && (t184 == t187)) t183 t184) = some r := H
    have A11 := aK A110
    clear A110
    have H' := aK H
    clear H
    try go_wp2
    have n0_ : Aside0 (((w7.setCell ⟨gb182, 0, none⟩ (.int .i64 t183)).setCell ⟨gb182, 1, none⟩ (.int .i64 t184)).heap[gb182]? = some (.cells #[.int .i64 t183, .int .i64 t184] 25 (0, 0))) := ⟨by (with_reducible repeat (first | refine bR ?_ | refine bA ?_ _)); refine blk_put (cs := #[.int .i64 t183, .int .i64 a0_1]) ?_ 1 _ rfl; (with_reducible repeat (first | refine bR ?_ | refine bA ?_ _)); refine blk_put (cs := #[.int .i64 a0_0, .int .i64 a0_1]) ?_ 0 _ rfl; (with_reducible repeat (first | refine bR ?_ | refine bA ?_ _)); exact BK182.out⟩
    have n1_ : Aside0 (Below w.heap.size w ((w7.setCell ⟨gb182, 0, none⟩ (.int .i64 t183)).setCell ⟨gb182, 1, none⟩ (.int .i64 t184))) := ⟨by repeat (first | (with_reducible first | exact HB.out | apply hA | apply hN | apply hD | refine below_set ?_ GE182.out) | exact HB.out)⟩
    (try clear BK182)
    (try clear HB)
    generalize ((w7.setCell ⟨gb182, 0, none⟩ (.int .i64 t183)).setCell ⟨gb182, 1, none⟩ (.int .i64 t184)) = w12 at n0_ n1_ ⊢
    have BK182 := n0_
    have HB := n1_
    clear n0_ n1_
    have n0_ := aK (blk_drew BK182.out)
    have n1_ := aK (below_drew1 HB.out)
    clear BK182
    clear HB
    have BK182 := n0_
    have HB := n1_
    clear n0_ n1_
    refine start_ (n := 9) (S := fun w' => w'.cell? ⟨gb182, 0, none⟩ = some (.int .i64 t183) ∧ w'.cell? ⟨gb182, 1, none⟩ = some (.int .i64 t184)) (ds := []) #[Z,Z,Z,Z,Z,Z,Z,Z,Z] (by kernel_rfl) rfl rfl ⟨(blk_cell BK182.out 0).trans rfl, (blk_cell BK182.out 1).trans rfl⟩ (fun hHeld => ?_); refine with_tabW congruence_Has.tab2 congruence_Has.bits2 (fun HT_ HW_ => ?_)
    generalize w12.drew = w13 at BK182 HB hHeld ⊢
    refine pure_ (i := 0) (N := some 8) (v := ?_) (a' := ?_) #[Y,Z,Z,Z,Z,Z,Z,Z,Z] rfl rfl (any_of HT_.out (by kernel_rfl)) (fun _ _ _ h => h) (Or.inl ⟨by rfl, ?_⟩) ?_ ?_
    rotate_left
    · intro w'
      go_simp
      with_reducible rfl
    rotate_left
    · simp only [Act.put, sA, sB, sC, i64_w, i32_w]
      rfl
    refine one_ (i := 1) (N := some 9) #[Y,Y,Z,Z,Z,Z,Z,Z,Z] rfl rfl (one_of HT_.out (by kernel_rfl)) (by decide) (fun K hK => ?_)
    refine goes_ Tryd.func30 (by kernel_rfl) rfl #[.int .i64 a1] (by rfl) rfl rfl (by (try simp only [mA, mB, mC]); first | done | rfl) ?_
    with_reducible refine (word_Is.calls a1 true _ A9.out).mono ?_
    rintro e w' ⟨rfl, ⟨nd, rfl⟩⟩
    refine ⟨_, rfl, ?_⟩
    refine hK.out _ _ ⟨(blk_cell BK182.out 0).trans rfl, (blk_cell BK182.out 1).trans rfl⟩ (fun hHeld => ?_)
    clear hK K
    refine norm_ (a' := ?_) ?_ ?_
    rotate_left
    · show Act.put _ (some 9) _ = _
      simp only [Act.put, sA, sB, sC, i64_w, i32_w]
      rfl
    refine pure_ (i := 2) (N := some 10) (v := ?_) (a' := ?_) #[Y,Y,Y,Z,Z,Z,Z,Z,Z] rfl rfl (any_of HT_.out (by kernel_rfl)) (fun _ _ _ h => h) (Or.inl ⟨by rfl, ?_⟩) ?_ ?_
    rotate_left
    · intro w'
      go_simp
      with_reducible rfl
    rotate_left
    · simp only [Act.put, sA, sB, sC, i64_w, i32_w]
      rfl
    refine pure_ (i := 3) (N := some 11) (v := ?_) (a' := ?_) #[Y,Y,Y,Y,Z,Z,Z,Z,Z] rfl rfl (any_of HT_.out (by kernel_rfl)) (fun _ _ _ h => h) (Or.inl ⟨by rfl, ?_⟩) ?_ ?_
    rotate_left
    · intro w'
      go_simp
      with_reducible rfl
    rotate_left
    · simp only [Act.put, sA, sB, sC, i64_w, i32_w]
      rfl
    refine take_ (i := 4) (N := some 12) (v := ?_) (a' := ?_) #[Y,Y,Y,Y,Y,Z,Z,Z,Z] rfl rfl (take_ofW HT_.out HW_.out (by kernel_rfl)) (fun _ _ _ h => h) (Or.inl ⟨by rfl, ?_⟩) hHeld ?_ ?_
    rotate_left
    · rintro w' ⟨s0, s1⟩
      go_simp
      with_reducible rfl
    rotate_left
    · simp only [Act.put, sA, sB, sC, i64_w, i32_w]
      rfl
    refine one_ (i := 5) (N := some 13) #[Y,Y,Y,Y,Y,Y,Z,Z,Z] rfl rfl (one_of HT_.out (by kernel_rfl)) (by decide) (fun K hK => ?_)
    refine goes_ Tryd.func9 (by kernel_rfl) rfl #[] (by rfl) rfl rfl (by (try simp only [mA, mB, mC]); first | done | rfl) ?_
    with_reducible refine (congruence_None.calls  t186 t187 _ A11.out).mono ?_
    rintro e w14 ⟨rfl, hb⟩
    refine ⟨_, rfl, ?_⟩
    have n0_ := aK (blk_below (g := gb182) (o := .cells #[.int .i64 t183, .int .i64 t184] 25 (0, 0)) (by (with_reducible repeat (first | refine bR ?_ | refine bA ?_ _)); exact BK182.out) hb)
    have n1_ := aK (below_step (by repeat (first | (with_reducible first | exact HB.out | apply hA | apply hN | apply hD | refine below_set ?_ GE182.out) | exact HB.out)) hb)
    clear BK182
    clear HB
    have BK182 := n0_
    have HB := n1_
    clear n0_ n1_
    (try clear hb)
    (try clear hb2)
    (try clear hk)
    (try clear hi)
    refine hK.out _ _ ⟨(blk_cell BK182.out 0).trans rfl, (blk_cell BK182.out 1).trans rfl⟩ (fun hHeld => ?_)
    clear hK K
    refine norm_ (a' := ?_) ?_ ?_
    rotate_left
    · show Act.put _ (some 13) _ = _
      simp only [Act.put, sA, sB, sC, i64_w, i32_w]
      rfl
    refine pure_ (i := 6) (N := some 14) (v := ?_) (a' := ?_) #[Y,Y,Y,Y,Y,Y,Y,Z,Z] rfl rfl (any_of HT_.out (by kernel_rfl)) (fun _ _ _ h => h) (Or.inl ⟨by rfl, ?_⟩) ?_ ?_
    rotate_left
    · intro w'
      go_simp
      with_reducible rfl
    rotate_left
    · simp only [Act.put, sA, sB, sC, i64_w, i32_w]
      rfl
    refine pure_ (i := 7) (N := some 15) (v := ?_) (a' := ?_) #[Y,Y,Y,Y,Y,Y,Y,Y,Z] rfl rfl (any_of HT_.out (by kernel_rfl)) (fun _ _ _ h => h) (Or.inl ⟨by rfl, ?_⟩) ?_ ?_
    rotate_left
    · intro w'
      go_simp
      with_reducible rfl
    rotate_left
    · simp only [Act.put, sA, sB, sC, i64_w, i32_w]
      rfl
    refine pure_ (i := 8) (N := some 7) (v := ?_) (a' := ?_) #[Y,Y,Y,Y,Y,Y,Y,Y,Y] rfl rfl (any_of HT_.out (by kernel_rfl)) (fun _ _ _ h => h) (Or.inl ⟨by rfl, ?_⟩) ?_ ?_
    rotate_left
    · intro w'
      go_simp
      with_reducible rfl
    rotate_left
    · simp only [Act.put, sA, sB, sC, i64_w, i32_w]
      rfl
    refine done_ (done_of HT_.out (by kernel_rfl)) ?_
    try go_wp2
    go_meet
    case rel => exact ⟨_, ((t183 == t186 && (t184 == t187))), (by first | rfl | (simp; done) | (simp [*]; done)), H', ⟨by first | omega | exact Nat.le_refl _⟩, ⟨by (with_reducible repeat (first | refine bR ?_ | refine bA ?_ _)); exact BK182.out⟩, ⟨by repeat (first | (with_reducible first | exact HB.out | apply hA | apply hN | apply hD | refine below_set ?_ GE182.out) | exact HB.out)⟩⟩
  · replace c10 := Bool.eq_false_iff.mpr c10
    subst c10
    have H1 : (congruence_Has.j0 k a1 true t183 t184) = some r := by rw [if_neg (show ¬ (false = true) by decide)] at H; exact H
    clear H
    have H := H1
    clear H1
    have H' := aK H
    clear H
    try go_wp2
    have n0_ : Aside0 (((w7.setCell ⟨gb182, 0, none⟩ (.int .i64 t183)).setCell ⟨gb182, 1, none⟩ (.int .i64 t184)).heap[gb182]? = some (.cells #[.int .i64 t183, .int .i64 t184] 25 (0, 0))) := ⟨by (with_reducible repeat (first | refine bR ?_ | refine bA ?_ _)); refine blk_put (cs := #[.int .i64 t183, .int .i64 a0_1]) ?_ 1 _ rfl; (with_reducible repeat (first | refine bR ?_ | refine bA ?_ _)); refine blk_put (cs := #[.int .i64 a0_0, .int .i64 a0_1]) ?_ 0 _ rfl; (with_reducible repeat (first | refine bR ?_ | refine bA ?_ _)); exact BK182.out⟩
    have n1_ : Aside0 (Below w.heap.size w ((w7.setCell ⟨gb182, 0, none⟩ (.int .i64 t183)).setCell ⟨gb182, 1, none⟩ (.int .i64 t184))) := ⟨by repeat (first | (with_reducible first | exact HB.out | apply hA | apply hN | apply hD | refine below_set ?_ GE182.out) | exact HB.out)⟩
    (try clear BK182)
    (try clear HB)
    generalize ((w7.setCell ⟨gb182, 0, none⟩ (.int .i64 t183)).setCell ⟨gb182, 1, none⟩ (.int .i64 t184)) = w15 at n0_ n1_ ⊢
    have BK182 := n0_
    have HB := n1_
    clear n0_ n1_
    have n0_ := aK (blk_drew BK182.out)
    have n1_ := aK (below_drew1 HB.out)
    clear BK182
    clear HB
    have BK182 := n0_
    have HB := n1_
    clear n0_ n1_
    refine start_ (n := 9) (S := fun w' => True) (ds := []) #[Z,Z,Z,Z,Z,Z,Z,Z,Z] (by kernel_rfl) rfl rfl trivial (fun hHeld => ?_); refine with_tabW congruence_Has.tab2 congruence_Has.bits2 (fun HT_ HW_ => ?_)
    generalize w15.drew = w16 at BK182 HB hHeld ⊢
    refine pure_ (i := 0) (N := some 8) (v := ?_) (a' := ?_) #[Y,Z,Z,Z,Z,Z,Z,Z,Z] rfl rfl (any_of HT_.out (by kernel_rfl)) (fun _ _ _ h => h) (Or.inl ⟨by rfl, ?_⟩) ?_ ?_
    rotate_left
    · intro w'
      go_simp
      with_reducible rfl
    rotate_left
    · simp only [Act.put, sA, sB, sC, i64_w, i32_w]
      rfl
    refine one_ (i := 1) (N := some 9) #[Y,Y,Z,Z,Z,Z,Z,Z,Z] rfl rfl (one_of HT_.out (by kernel_rfl)) (by decide) (fun K hK => ?_)
    refine goes_ Tryd.func30 (by kernel_rfl) rfl #[.int .i64 a1] (by rfl) rfl rfl (by (try simp only [mA, mB, mC]); first | done | rfl) ?_
    with_reducible refine (word_Is.calls a1 false _ A9.out).mono ?_
    rintro e w' ⟨rfl, ⟨nd, rfl⟩⟩
    refine ⟨_, rfl, ?_⟩
    refine hK.out _ _ trivial (fun hHeld => ?_)
    clear hK K
    refine norm_ (a' := ?_) ?_ ?_
    rotate_left
    · show Act.put _ (some 9) _ = _
      simp only [Act.put, sA, sB, sC, i64_w, i32_w]
      rfl
    refine pure_ (i := 2) (N := some 10) (v := ?_) (a' := ?_) #[Y,Y,Y,Z,Z,Z,Z,Z,Z] rfl rfl (any_of HT_.out (by kernel_rfl)) (fun _ _ _ h => h) (Or.inl ⟨by rfl, ?_⟩) ?_ ?_
    rotate_left
    · intro w'
      go_simp
      with_reducible rfl
    rotate_left
    · simp only [Act.put, sA, sB, sC, i64_w, i32_w]
      rfl
    refine pure_ (i := 3) (N := some 11) (v := ?_) (a' := ?_) #[Y,Y,Y,Y,Z,Z,Z,Z,Z] rfl rfl (any_of HT_.out (by kernel_rfl)) (fun _ _ _ h => h) (Or.inl ⟨by rfl, ?_⟩) ?_ ?_
    rotate_left
    · intro w'
      go_simp
      with_reducible rfl
    rotate_left
    · simp only [Act.put, sA, sB, sC, i64_w, i32_w]
      rfl
    refine pure_ (i := 4) (N := some 12) (v := undef) (a' := ?_) #[Y,Y,Y,Y,Y,Z,Z,Z,Z] rfl rfl (any_of HT_.out (by kernel_rfl)) (fun _ _ _ h => h) (Or.inr ⟨by rfl, rfl⟩) ?_ ?_
    rotate_left
    · simp only [Act.put, sA, sB, sC, i64_w, i32_w]
      rfl
    refine pure_ (i := 5) (N := some 13) (v := undef) (a' := ?_) #[Y,Y,Y,Y,Y,Y,Z,Z,Z] rfl rfl (any_of HT_.out (by kernel_rfl)) (fun _ _ _ h => h) (Or.inr ⟨by rfl, rfl⟩) ?_ ?_
    rotate_left
    · simp only [Act.put, sA, sB, sC, i64_w, i32_w]
      rfl
    refine pure_ (i := 6) (N := some 14) (v := undef) (a' := ?_) #[Y,Y,Y,Y,Y,Y,Y,Z,Z] rfl rfl (any_of HT_.out (by kernel_rfl)) (fun _ _ _ h => h) (Or.inr ⟨by rfl, rfl⟩) ?_ ?_
    rotate_left
    · simp only [Act.put, sA, sB, sC, i64_w, i32_w]
      rfl
    refine pure_ (i := 7) (N := some 15) (v := ?_) (a' := ?_) #[Y,Y,Y,Y,Y,Y,Y,Y,Z] rfl rfl (any_of HT_.out (by kernel_rfl)) (fun _ _ _ h => h) (Or.inl ⟨by rfl, ?_⟩) ?_ ?_
    rotate_left
    · intro w'
      go_simp
      with_reducible rfl
    rotate_left
    · simp only [Act.put, sA, sB, sC, i64_w, i32_w]
      rfl
    refine pure_ (i := 8) (N := some 7) (v := ?_) (a' := ?_) #[Y,Y,Y,Y,Y,Y,Y,Y,Y] rfl rfl (any_of HT_.out (by kernel_rfl)) (fun _ _ _ h => h) (Or.inl ⟨by rfl, ?_⟩) ?_ ?_
    rotate_left
    · intro w'
      go_simp
      with_reducible rfl
    rotate_left
    · simp only [Act.put, sA, sB, sC, i64_w, i32_w]
      rfl
    refine done_ (done_of HT_.out (by kernel_rfl)) ?_
    try go_wp2
    go_meet
    case rel => exact ⟨_, (true), (by first | rfl | (simp; done) | (simp [*]; done)), H', ⟨by first | omega | exact Nat.le_refl _⟩, ⟨by (with_reducible repeat (first | refine bR ?_ | refine bA ?_ _)); exact BK182.out⟩, ⟨by repeat (first | (with_reducible first | exact HB.out | apply hA | apply hN | apply hD | refine below_set ?_ GE182.out) | exact HB.out)⟩⟩
 case rest =>
  clear HC4
  try clear c1
  try clear c2
  try clear p2
  try clear c3
  try clear c9
  try clear c10
  try clear c14
  try clear hcz6_0
  try clear hcz6_1
  try clear hcz8_0
  try clear hcz8_1
  try clear hfz6_0
  try clear hfz6_1
  try clear hfz8_0
  try clear hfz8_1
  obtain ⟨kq, x7_3, rfl, HA, HJ3, BK182, HB⟩ := hcut
  cases kq with
  | zero => exact absurd HA.out (by simp [congruence_Has.j0])
  | succ kj3 =>
   have H := HA.out
   clear HA
   simp only [congruence_Has.j0] at H
   by_cases c17 : x7_3 = true
   · subst c17
     have H1 : (some false) = some r := by rw [if_pos rfl] at H; exact H
     clear H
     have H := H1
     clear H1
     obtain rfl := Option.some.inj H
     go_wp2
     go_ret
     exact ⟨by first | rfl | (simp [errW_none, errW_some] <;> rfl) | (simp [*, errW_none, errW_some] <;> rfl), by repeat (first | (with_reducible first | exact HB.out | apply hA | apply hN | apply hD | refine below_set ?_ GE182.out) | exact HB.out)⟩
   · replace c17 := Bool.eq_false_iff.mpr c17
     subst c17
     have H1 : (if t183 = 0 then (some (a1 == t184)) else (some ((Int.tmod (wrap64 (a1 - t184)) t183) == 0))) = some r := by rw [if_neg (show ¬ (false = true) by decide)] at H; exact H
     clear H
     have H := H1
     clear H1
     by_cases c18 : t183 = 0
     · rw [if_pos c18] at H
       have c18b0 : (t183 == 0) = true := beq_iff_eq.mpr c18
       have c18b1 : (t183 != 0) = false := bne_eq_false_iff_eq.mpr c18
       clear c18
       obtain rfl := Option.some.inj H
       have hcz19_0 : wc.cell? ⟨gb182, 0, none⟩ = some (.int .i64 t183) := (blk_cell BK182.out 0).trans rfl
       have hcz19_1 : wc.cell? ⟨gb182, 1, none⟩ = some (.int .i64 t184) := (blk_cell BK182.out 1).trans rfl
       have hfz19_0 := blk_frozen BK182.out 0
       have hfz19_1 := blk_frozen BK182.out 1
       go_wp2
       go_ret
       exact ⟨by first | rfl | (simp [errW_none, errW_some] <;> rfl) | (simp [*, errW_none, errW_some] <;> rfl), by repeat (first | (with_reducible first | exact HB.out | apply hA | apply hN | apply hD | refine below_set ?_ GE182.out) | exact HB.out)⟩
     · rw [if_neg c18] at H
       have c18b0 : (t183 == 0) = false := beq_eq_false_iff_ne.mpr c18
       have c18b1 : (t183 != 0) = true := bne_iff_ne.mpr c18
       obtain rfl := Option.some.inj H
       have hcz20_0 : wc.cell? ⟨gb182, 0, none⟩ = some (.int .i64 t183) := (blk_cell BK182.out 0).trans rfl
       have hcz20_1 : wc.cell? ⟨gb182, 1, none⟩ = some (.int .i64 t184) := (blk_cell BK182.out 1).trans rfl
       have hfz20_0 := blk_frozen BK182.out 0
       have hfz20_1 := blk_frozen BK182.out 1
       go_wp2
       go_ret
       exact ⟨by first | rfl | (simp [errW_none, errW_some] <;> rfl) | (simp [*, errW_none, errW_some] <;> rfl), by repeat (first | (with_reducible first | exact HB.out | apply hA | apply hN | apply hD | refine below_set ?_ GE182.out) | exact HB.out)⟩
end Go.Proofs.YtaphfmbloappkaaDoorG.PAll
