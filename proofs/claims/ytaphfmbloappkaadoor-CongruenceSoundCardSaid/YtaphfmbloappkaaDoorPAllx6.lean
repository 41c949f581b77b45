-- The walks of some functions, printed by a program for this claim.
import Derived.Test.YtaphfmbloappkaaDoorPAllx0
import Derived.Test.YtaphfmbloappkaaDoorPAllx1
import Derived.Test.YtaphfmbloappkaaDoorPAllx2
import Derived.Test.YtaphfmbloappkaaDoorPAllx3
import Derived.Test.YtaphfmbloappkaaDoorPAllx5
namespace Go.Proofs.YtaphfmbloappkaaDoorG.PAll
open Go.RowKit Go.Proofs.YtaphfmbloappkaaDoorW.PrintWords Go.Proofs.YtaphfmbloappkaaDoorW.PrintLast Go.Proofs.YtaphfmbloappkaaDoorW.PrintMore
attribute [local go_sem] max2_int min2_int max_two min_two max_three min_three max_four min_four   -- for this text's walks alone
set_option linter.unusedVariables false
set_option linter.unusedSimpArgs false

attribute [local go_sem high] eqA25
/-! ### timeboundlaw08_CongruenceSound: function 3 -/
def timeboundlaw08_CongruenceSound.j0 : Nat → Int → Int → Int → Bool → Int → Int → Int → Int → Option (Bool)
  | 0, _, _, _, _, _, _, _, _ => none
  | k + 1, x0, x4, x5, x35, x194000, x194001, x195000, x195001 => if x35 = true then ((congruence_Do.f k (wrap64 (1 + (Int.tmod (wrap64 (x0)) 14))) x194000 x194001 x195000 x195001).bind fun bt199 => ((congruence_None.f).bind fun bt201 => (if (bt199.1 == bt201.1 && (bt199.2 == bt201.2)) = true then ((timeboundlaw08_awake.f k).bind fun t203 => (some t203)) else (none)))) else ((timeboundlaw08_member.f x194000 x194001 x4).bind fun t204 => ((timeboundlaw08_member.f x195000 x195001 x5).bind fun t205 => ((timeboundref01_Do.f (wrap64 (1 + (Int.tmod (wrap64 (x0)) 14))) t204 t205).bind fun bt206 => ((congruence_Do.f k (wrap64 (1 + (Int.tmod (wrap64 (x0)) 14))) x194000 x194001 x195000 x195001).bind fun bt208 => ((congruence_Has.f k x194000 x194001 t204).bind fun t211 => (if t211 = true then ((congruence_Has.f k x195000 x195001 t205).bind fun t212 => (if t212 = true then ((congruence_Has.f k bt208.1 bt208.2 bt206.1).bind fun t213 => (if t213 = true then ((congruence_Valid.f bt208.1 bt208.2).bind fun t214 => (if t214 = true then ((timeboundlaw08_awake.f k).bind fun t215 => (some t215)) else (none))) else (none))) else (none))) else (none)))))))
def timeboundlaw08_CongruenceSound.f (k : Nat) (a0 : Int) (a1 : Int) (a2 : Int) (a3_0 : Int) (a3_1 : Int) (a4 : Int) (a5 : Int) : Option (Bool) := (timeboundlaw08_of.f a1 a3_0).bind fun bt189 => ((timeboundlaw08_of.f a2 a3_1).bind fun bt191 => ((congruence_None.f).bind fun bt195 => (if (bt189.1 == bt195.1 && (bt189.2 == bt195.2)) = true then (timeboundlaw08_CongruenceSound.j0 k a0 a4 a5 true bt189.1 bt189.2 bt191.1 bt191.2) else ((congruence_None.f).bind fun bt197 => (timeboundlaw08_CongruenceSound.j0 k a0 a4 a5 (bt191.1 == bt197.1 && (bt191.2 == bt197.2)) bt189.1 bt189.2 bt191.1 bt191.2)))))
theorem timeboundlaw08_CongruenceSound.mono_l : ∀ k, (∀ y0 y1 y2 y3 y4 y5 y6 y7, LeO (timeboundlaw08_CongruenceSound.j0 k y0 y1 y2 y3 y4 y5 y6 y7) (timeboundlaw08_CongruenceSound.j0 (k + 1) y0 y1 y2 y3 y4 y5 y6 y7))
  | 0 => fun _ _ _ _ _ _ _ _ r h => by simp [timeboundlaw08_CongruenceSound.j0] at h
  | k + 1 => by
    have ih0 := timeboundlaw08_CongruenceSound.mono_l k
    · intro y0 y1 y2 y3 y4 y5 y6 y7
      unfold timeboundlaw08_CongruenceSound.j0
      repeat' first
      | (with_reducible exact ih0 _ _ _ _ _ _ _ _)
      | (with_reducible exact congruence_Do.mono _ _ _ _ _ _)
      | (with_reducible exact congruence_Has.mono _ _ _ _)
      | (with_reducible exact timeboundlaw08_awake.mono _)
      | (with_reducible exact LeO.refl _)
      | (with_reducible exact LeO.none _)
      | (with_reducible refine LeO.ite ?_ ?_)
      | (with_reducible refine LeO.bind ?_ (fun _ => ?_))
      | exact ih0 _ _ _ _ _ _ _ _
      | exact congruence_Do.mono _ _ _ _ _ _
      | exact congruence_Has.mono _ _ _ _
      | exact timeboundlaw08_awake.mono _
      | exact LeO.none _
      | refine LeO.ite ?_ ?_
      | refine LeO.bind ?_ (fun _ => ?_)
theorem timeboundlaw08_CongruenceSound.mono : ∀ a0 a1 a2 a3 a4 a5 a6 k, LeO (timeboundlaw08_CongruenceSound.f k a0 a1 a2 a3 a4 a5 a6) (timeboundlaw08_CongruenceSound.f (k + 1) a0 a1 a2 a3 a4 a5 a6) := by
  intro a0 a1 a2 a3 a4 a5 a6 k
  have ih0 := timeboundlaw08_CongruenceSound.mono_l k
  unfold timeboundlaw08_CongruenceSound.f
  repeat' first
      | (with_reducible exact ih0 _ _ _ _ _ _ _ _)
      | (with_reducible exact congruence_Do.mono _ _ _ _ _ _)
      | (with_reducible exact congruence_Has.mono _ _ _ _)
      | (with_reducible exact timeboundlaw08_awake.mono _)
      | (with_reducible exact LeO.refl _)
      | (with_reducible exact LeO.none _)
      | (with_reducible refine LeO.ite ?_ ?_)
      | (with_reducible refine LeO.bind ?_ (fun _ => ?_))
      | exact ih0 _ _ _ _ _ _ _ _
      | exact congruence_Do.mono _ _ _ _ _ _
      | exact congruence_Has.mono _ _ _ _
      | exact timeboundlaw08_awake.mono _
      | exact LeO.none _
      | refine LeO.ite ?_ ?_
      | refine LeO.bind ?_ (fun _ => ?_)
def timeboundlaw08_CongruenceSound.T1 : Bool × List (List Nat × List Nat) := (true, [([], []), ([], []), ([1], [1]), ([0, 2], [0, 2]), ([], []), ([], []), ([5], [5]), ([4, 6, 3], [4, 6]), ([], []), ([], []), ([8, 3, 7, 0, 1, 2, 3, 8, 9], [3, 8]), ([9, 7, 10, 0, 1, 2, 3, 4, 5, 6, 7, 8, 9, 10], [7, 9])])
def timeboundlaw08_CongruenceSound.B1 : List Nat := [0, 0, 2, 7, 0, 0, 32, 127, 0, 0, 1023, 2047]
theorem timeboundlaw08_CongruenceSound.tab1 : rtab .any (opsOf Tryd.f3 1) = timeboundlaw08_CongruenceSound.T1 := by kernel_rfl
theorem timeboundlaw08_CongruenceSound.bits1 : waitsOk timeboundlaw08_CongruenceSound.T1.2 timeboundlaw08_CongruenceSound.B1 = true := by kernel_rfl
def timeboundlaw08_CongruenceSound.T2 : Bool × List (List Nat × List Nat) := (true, [([], []), ([], []), ([0, 1], [0, 1]), ([2, 1], [2]), ([3], [3]), ([3, 3], [3]), ([4, 5, 3], [3, 4, 5]), ([3, 6], [3, 6])])
def timeboundlaw08_CongruenceSound.B2 : List Nat := [0, 0, 3, 7, 15, 15, 63, 127]
theorem timeboundlaw08_CongruenceSound.tab2 : rtab .any (opsOf Tryd.f3 2) = timeboundlaw08_CongruenceSound.T2 := by kernel_rfl
theorem timeboundlaw08_CongruenceSound.bits2 : waitsOk timeboundlaw08_CongruenceSound.T2.2 timeboundlaw08_CongruenceSound.B2 = true := by kernel_rfl
def timeboundlaw08_CongruenceSound.T4 : Bool × List (List Nat × List Nat) := (true, [([], []), ([], []), ([0, 1], [0, 1]), ([], []), ([], []), ([3, 4, 2], [3, 4]), ([2, 5, 0, 1, 2], [2]), ([5, 6, 0, 1, 2, 3, 4, 5, 6], [5])])
def timeboundlaw08_CongruenceSound.B4 : List Nat := [0, 0, 3, 0, 0, 31, 63, 127]
theorem timeboundlaw08_CongruenceSound.tab4 : rtab .any (opsOf Tryd.f3 4) = timeboundlaw08_CongruenceSound.T4 := by kernel_rfl
theorem timeboundlaw08_CongruenceSound.bits4 : waitsOk timeboundlaw08_CongruenceSound.T4.2 timeboundlaw08_CongruenceSound.B4 = true := by kernel_rfl
set_option maxHeartbeats 80000000 in
set_option maxRecDepth 100000 in
theorem timeboundlaw08_CongruenceSound.calls (k : Nat) (a0 : Int) (a1 : Int) (a2 : Int) (a3_0 : Int) (a3_1 : Int) (a4 : Int) (a5 : Int) (r : Bool) (w : World) (h : timeboundlaw08_CongruenceSound.f k a0 a1 a2 a3_0 a3_1 a4 a5 = some r) (hT0 : Go.Proofs.YtaphfmbloappkaaDoor.TabOK w) :
    Calls Tryd.prog 3 #[.int .u8 a0, .int .i32 a1, .int .i32 a2, .agg #[.int .u8 a3_0, .int .u8 a3_1], .int .u32 a4, .int .u32 a5] w fun e w' => e = .returned (.bool r) ∧ Below w.heap.size w w' := by
  have hT := Aside0.mk hT0
  clear hT0
  have hu22 := Tryd.underlying22
  have hu25 := Tryd.underlying25
  have HB := Aside0.mk (Below.refl w.heap.size w)
  have H : ((timeboundlaw08_of.f a1 a3_0).bind fun bt189 => ((timeboundlaw08_of.f a2 a3_1).bind fun bt191 => ((congruence_None.f).bind fun bt195 => (if (bt189.1 == bt195.1 && (bt189.2 == bt195.2)) = true then (timeboundlaw08_CongruenceSound.j0 k a0 a4 a5 true bt189.1 bt189.2 bt191.1 bt191.2) else ((congruence_None.f).bind fun bt197 => (timeboundlaw08_CongruenceSound.j0 k a0 a4 a5 (bt191.1 == bt197.1 && (bt191.2 == bt197.2)) bt189.1 bt189.2 bt191.1 bt191.2)))))) = some r := h
  clear h
  replace H := Option.bind_eq_some_iff.mp H
  obtain ⟨⟨t189, t190⟩, A70, H⟩ := H
  replace H : ((timeboundlaw08_of.f a2 a3_1).bind fun bt191 => ((congruence_None.f).bind fun bt195 => (if (t189 == bt195.1 && (t190 == bt195.2)) = true then (timeboundlaw08_CongruenceSound.j0 k a0 a4 a5 true t189 t190 bt191.1 bt191.2) else ((congruence_None.f).bind fun bt197 => (timeboundlaw08_CongruenceSound.j0 k a0 a4 a5 (bt191.1 == bt197.1 && (bt191.2 == bt197.2)) t189 t190 bt191.1 bt191.2))))) = some r := H
  have A7 := Aside0.mk A70
  clear A70
  replace H := Option.bind_eq_some_iff.mp H
  obtain ⟨⟨t191, t192⟩, A80, H⟩ := H
  replace H : ((congruence_None.f).bind fun bt195 => (if (t189 == bt195.1 && (t190 == bt195.2)) = true then (timeboundlaw08_CongruenceSound.j0 k a0 a4 a5 true t189 t190 t191 t192) else ((congruence_None.f).bind fun bt197 => (timeboundlaw08_CongruenceSound.j0 k a0 a4 a5 (t191 == bt197.1 && (t192 == bt197.2)) t189 t190 t191 t192)))) = some r := H
  have A8 := Aside0.mk A80
  clear A80
  have HC9 := Aside0.mk H
  clear H
  go_enter Tryd.func3, Tryd.ntmps3
  try go_wp2_with (first | ((with_reducible refine gate_dst (N := 9) rfl ?_); refine box_event ?hg (N := 9) ?hd (cs := #[.int .u8 a3_0, .int .u8 a3_1]) (t := 22) ?hr ?_; (case hd => rfl); (case hg => rfl); (case hr => first | (go_simp; done) | (go_simp; rfl)); intro gb188 hg w10 hbox hb; have n0_ := Aside0.mk (below_step (by repeat (first | (with_reducible first | exact HB.out | apply below_alloc | apply pw_below_drewN | apply below_drew1) | exact HB.out)) hb); have n1_ := Aside0.mk (hbox); have n2_ := Aside0.mk ((by rw [hg]; exact (below_size (by repeat (first | (with_reducible first | exact HB.out | apply below_alloc | apply pw_below_drewN | apply below_drew1) | exact HB.out))) : w.heap.size ≤ gb188)); have n3_ := Aside0.mk ((by rw [hg]; exact (below_size (by repeat (first | (with_reducible first | exact HB.out | apply below_alloc | apply pw_below_drewN | apply below_drew1) | exact HB.out))) : w.heap.size ≤ gb188)); clear HB; have HB := n0_; have BK188 := n1_; have GW188 := n2_; have GE188 := n3_; clear n0_ n1_ n2_ n3_; clear hb hbox hg))
  have n0_ := Aside0.mk (blk_drew BK188.out)
  have n1_ := Aside0.mk (below_drew1 HB.out)
  clear BK188
  clear HB
  have BK188 := n0_
  have HB := n1_
  clear n0_ n1_
  refine start_ (n := 12) (S := fun w' => True) (ds := []) #[false, false, false, false, false, false, false, false, false, false, false, false] (by kernel_rfl) rfl rfl trivial (fun hHeld => ?_); refine with_tabW timeboundlaw08_CongruenceSound.tab1 timeboundlaw08_CongruenceSound.bits1 (fun HT_ HW_ => ?_)
  generalize w10.drew = w11 at BK188 HB hHeld ⊢
  refine pure_ (i := 0) (N := some 20) (v := ?_) (a' := ?_) #[true, false, false, false, false, false, false, false, false, false, false, false] rfl rfl (any_of HT_.out (by kernel_rfl)) (fun _ _ _ h => h) (Or.inl ⟨by rfl, ?_⟩) ?_ ?_
  rotate_left
  · intro w'
    go_simp
    with_reducible rfl
  rotate_left
  · simp only [Act.put, List.setIfInBounds_toArray, List.set_cons_zero, List.set_cons_succ, i64_w, i32_w]
    rfl
  refine pure_ (i := 4) (N := some 24) (v := ?_) (a' := ?_) #[true, false, false, false, true, false, false, false, false, false, false, false] rfl rfl (any_of HT_.out (by kernel_rfl)) (fun _ _ _ h => h) (Or.inl ⟨by rfl, ?_⟩) ?_ ?_
  rotate_left
  · intro w'
    go_simp
    with_reducible rfl
  rotate_left
  · simp only [Act.put, List.setIfInBounds_toArray, List.set_cons_zero, List.set_cons_succ, i64_w, i32_w]
    rfl
  refine inv_at [1, 2, 3, 5, 6, 7, 8, 9, 10, 11] (fun a0_ b a w' => ∃ (gb193 : Nat) (gb194 : Nat) (m8_ : Value) (m9_ : Value), a = putSel a0_ b [(1, 21, .pointer (some ⟨gb188, 0, none⟩)), (2, 22, .int .u8 a3_0), (3, 23, .agg #[.int .i64 t189, .int .i64 t190]), (5, 25, .pointer (some ⟨gb188, 1, none⟩)), (6, 26, .int .u8 a3_1), (7, 27, .agg #[.int .i64 t191, .int .i64 t192]), (8, 13, m8_), (9, 14, m9_)] ∧ (w'.heap[gb188]? = some (.cells #[.int .u8 a3_0, .int .u8 a3_1] 22 (0, 0))) ∧ (Below w.heap.size w w') ∧ (b 8 = true → b 9 = true → gb194 ≠ gb193) ∧ (b 8 = true → b 9 = true → gb193 ≠ gb194) ∧ (b 8 = true → b 10 = false → w'.heap[gb193]? = some (.cells #[.int .i64 0, .int .i64 0] 25 (0, 0))) ∧ (b 8 = true → w.heap.size ≤ gb193) ∧ (b 8 = true → w.heap.size ≤ gb193) ∧ (b 8 = true → gb188 ≠ gb193) ∧ (b 8 = true → gb193 ≠ gb188) ∧ (b 9 = true → b 11 = false → w'.heap[gb194]? = some (.cells #[.int .i64 0, .int .i64 0] 25 (0, 0))) ∧ (b 9 = true → w.heap.size ≤ gb194) ∧ (b 9 = true → w.heap.size ≤ gb194) ∧ (b 9 = true → gb188 ≠ gb194) ∧ (b 9 = true → gb194 ≠ gb188) ∧ (b 10 = true → w'.heap[gb193]? = some (.cells #[.int .i64 t189, .int .i64 t190] 25 (0, 0))) ∧ (b 11 = true → w'.heap[gb194]? = some (.cells #[.int .i64 t191, .int .i64 t192] 25 (0, 0))) ∧ (b 8 = true → (m8_ : Value) = .pointer (some ⟨gb193, 0, none⟩)) ∧ (b 9 = true → (m9_ : Value) = .pointer (some ⟨gb194, 0, none⟩))) HT_.out HW_.out (by kernel_rfl) (by kernel_rfl) ?_ ?_ ?_
  · exact ⟨0, 0, .bool false, .bool false, by simp only [putSel, Bool.false_eq_true, if_false], BK188.out, HB.out, fun h_ => absurd h_ (by decide), fun h_ => absurd h_ (by decide), fun h_ => absurd h_ (by decide), fun h_ => absurd h_ (by decide), fun h_ => absurd h_ (by decide), fun h_ => absurd h_ (by decide), fun h_ => absurd h_ (by decide), fun h_ => absurd h_ (by decide), fun h_ => absurd h_ (by decide), fun h_ => absurd h_ (by decide), fun h_ => absurd h_ (by decide), fun h_ => absurd h_ (by decide), fun h_ => absurd h_ (by decide), fun h_ => absurd h_ (by decide), fun h_ => absurd h_ (by decide), fun h_ => absurd h_ (by decide)⟩
  · skip
    clear BK188 HB
    refine steps_cons ?_ ?_
    · rintro b a w' ⟨gb193, gb194, m8_, m9_, ha, Q_BK188, Q_HB, Q_NB194_193, Q_NB193_194, Q_BK193, Q_GW193, Q_GE193, Q_NB188_193, Q_NB193_188, Q_BK194, Q_GW194, Q_GE194, Q_NB188_194, Q_NB194_188, Q_BK193_e10, Q_BK194_e11, Q_X8_, Q_X9_⟩ hb_ hon hoff
      refine ⟨_, rfl, fun K hK => ?_⟩
      have e9 : a.tmps[9]? = some (.pointer (some ⟨gb188, 0, none⟩)) := by rw [ha]; exact (putSel_off rfl).trans rfl
      replace ha := Aside0.mk ha
      have BK188 := Aside0.mk Q_BK188
      have HB := Aside0.mk Q_HB
      refine value_ (w1 := w') (v := .pointer (some ⟨gb188, 0, none⟩)) (by rfl) rfl ?_ ?_
      · go_simp
        (try simp only [i64_w])
        try rfl
      refine hK.out _ _ ⟨gb193, gb194, m8_, m9_, (by rw [ha.out]; exact putSel_upk 0 hb_ rfl rfl rfl), Q_BK188, Q_HB, Q_NB194_193, Q_NB193_194, Q_BK193, Q_GW193, Q_GE193, Q_NB188_193, Q_NB193_188, Q_BK194, Q_GW194, Q_GE194, Q_NB188_194, Q_NB194_188, fun h0_ => absurd ((hoff 10 (by kernel_rfl)).symm.trans h0_) (by decide), fun h0_ => absurd ((hoff 11 (by kernel_rfl)).symm.trans h0_) (by decide), Q_X8_, Q_X9_⟩
    refine steps_cons ?_ ?_
    · rintro b a w' ⟨gb193, gb194, m8_, m9_, ha, Q_BK188, Q_HB, Q_NB194_193, Q_NB193_194, Q_BK193, Q_GW193, Q_GE193, Q_NB188_193, Q_NB193_188, Q_BK194, Q_GW194, Q_GE194, Q_NB188_194, Q_NB194_188, Q_BK193_e10, Q_BK194_e11, Q_X8_, Q_X9_⟩ hb_ hon hoff
      refine ⟨_, rfl, fun K hK => ?_⟩
      have e21 : a.tmps[21]? = some (.pointer (some ⟨gb188, 0, none⟩)) := by rw [ha]; exact putSel_on (e := (1, 21, .pointer (some ⟨gb188, 0, none⟩))) 0 rfl rfl (hon 1 (by kernel_rfl)) rfl
      replace ha := Aside0.mk ha
      have BK188 := Aside0.mk Q_BK188
      have HB := Aside0.mk Q_HB
      have hc0_ : w'.cell? ⟨gb188, 0, none⟩ = some (.int .u8 a3_0) := (blk_cell BK188.out 0).trans rfl
      have hc1_ : w'.cell? ⟨gb188, 1, none⟩ = some (.int .u8 a3_1) := (blk_cell BK188.out 1).trans rfl
      refine value_ (w1 := w') (v := .int .u8 a3_0) (by rfl) rfl ?_ ?_
      · go_simp
        (try simp only [i64_w])
        try rfl
      refine hK.out _ _ ⟨gb193, gb194, m8_, m9_, (by rw [ha.out]; exact putSel_upk 1 hb_ rfl rfl rfl), Q_BK188, Q_HB, Q_NB194_193, Q_NB193_194, Q_BK193, Q_GW193, Q_GE193, Q_NB188_193, Q_NB193_188, Q_BK194, Q_GW194, Q_GE194, Q_NB188_194, Q_NB194_188, fun h0_ => absurd ((hoff 10 (by kernel_rfl)).symm.trans h0_) (by decide), fun h0_ => absurd ((hoff 11 (by kernel_rfl)).symm.trans h0_) (by decide), Q_X8_, Q_X9_⟩
    refine steps_cons ?_ ?_
    · rintro b a w' ⟨gb193, gb194, m8_, m9_, ha, Q_BK188, Q_HB, Q_NB194_193, Q_NB193_194, Q_BK193, Q_GW193, Q_GE193, Q_NB188_193, Q_NB193_188, Q_BK194, Q_GW194, Q_GE194, Q_NB188_194, Q_NB194_188, Q_BK193_e10, Q_BK194_e11, Q_X8_, Q_X9_⟩ hb_ hon hoff
      refine ⟨_, rfl, fun K hK => ?_⟩
      have e20 : a.tmps[20]? = some (.int .i32 a1) := by rw [ha]; exact (putSel_off rfl).trans rfl
      have e22 : a.tmps[22]? = some (.int .u8 a3_0) := by rw [ha]; exact putSel_on (e := (2, 22, .int .u8 a3_0)) 1 rfl rfl (hon 2 (by kernel_rfl)) rfl
      replace ha := Aside0.mk ha
      have BK188 := Aside0.mk Q_BK188
      have HB := Aside0.mk Q_HB
      refine goes_ Tryd.func8 (by kernel_rfl) rfl #[.int .i32 a1, .int .u8 a3_0] (by rfl) rfl rfl (by first | (simp only [List.map_toArray, List.map_cons, List.map_nil, Act.eval, Array.getD_eq_getD_getElem?, Option.getD_some, e20, e22]; done) | (simp only [List.map_toArray, List.map_cons, List.map_nil, Act.eval, Array.getD_eq_getD_getElem?, Option.getD_some, e20, e22]; rfl)) ?_
      with_reducible refine (timeboundlaw08_of.calls a1 a3_0 t189 t190 _ A7.out).mono ?_
      rintro e w12 ⟨rfl, hb⟩
      refine ⟨_, rfl, ?_⟩
      have n0_ := Aside0.mk (blk_below (g := gb188) (o := .cells #[.int .u8 a3_0, .int .u8 a3_1] 22 (0, 0)) (by (with_reducible repeat (first | refine blk_drewN ?_ _ | refine blk_drew ?_ | refine blk_alloc ?_ _)); exact BK188.out) hb)
      have n1_ := Aside0.mk (below_step (by repeat (first | (with_reducible first | exact HB.out | apply below_alloc | apply pw_below_drewN | apply below_drew1 | refine below_set ?_ GE188.out) | exact HB.out)) hb)
      have z_BK193 := fun (h0_ : b 8 = true) (h1_ : b 10 = false) => (show w12.heap[gb193]? = some (.cells #[.int .i64 0, .int .i64 0] 25 (0, 0)) from by first | exact (blk_below (g := gb193) (o := .cells #[.int .i64 0, .int .i64 0] 25 (0, 0)) (by (with_reducible repeat (first | refine blk_drewN ?_ _ | refine blk_drew ?_ | refine blk_alloc ?_ _)); exact (Q_BK193 h0_ h1_)) hb))
      have z_BK194 := fun (h0_ : b 9 = true) (h1_ : b 11 = false) => (show w12.heap[gb194]? = some (.cells #[.int .i64 0, .int .i64 0] 25 (0, 0)) from by first | exact (blk_below (g := gb194) (o := .cells #[.int .i64 0, .int .i64 0] 25 (0, 0)) (by (with_reducible repeat (first | refine blk_drewN ?_ _ | refine blk_drew ?_ | refine blk_alloc ?_ _)); exact (Q_BK194 h0_ h1_)) hb))
      clear BK188
      clear HB
      have BK188 := n0_
      have HB := n1_
      clear n0_ n1_
      (try clear hb)
      (try clear hb2)
      (try clear hk)
      (try clear hi)
      refine hK.out _ _ ⟨gb193, gb194, m8_, m9_, (by rw [ha.out]; exact putSel_upk 2 hb_ rfl rfl rfl), (by (with_reducible repeat (first | refine blk_drewN ?_ _ | refine blk_drew ?_ | refine blk_alloc ?_ _)); exact BK188.out), (by repeat (first | (with_reducible first | exact HB.out | apply below_alloc | apply pw_below_drewN | apply below_drew1 | refine below_set ?_ GE188.out) | exact HB.out)), Q_NB194_193, Q_NB193_194, z_BK193, Q_GW193, Q_GE193, Q_NB188_193, Q_NB193_188, z_BK194, Q_GW194, Q_GE194, Q_NB188_194, Q_NB194_188, fun h0_ => absurd ((hoff 10 (by kernel_rfl)).symm.trans h0_) (by decide), fun h0_ => absurd ((hoff 11 (by kernel_rfl)).symm.trans h0_) (by decide), Q_X8_, Q_X9_⟩
    refine steps_cons ?_ ?_
    · rintro b a w' ⟨gb193, gb194, m8_, m9_, ha, Q_BK188, Q_HB, Q_NB194_193, Q_NB193_194, Q_BK193, Q_GW193, Q_GE193, Q_NB188_193, Q_NB193_188, Q_BK194, Q_GW194, Q_GE194, Q_NB188_194, Q_NB194_188, Q_BK193_e10, Q_BK194_e11, Q_X8_, Q_X9_⟩ hb_ hon hoff
      refine ⟨_, rfl, fun K hK => ?_⟩
      have e9 : a.tmps[9]? = some (.pointer (some ⟨gb188, 0, none⟩)) := by rw [ha]; exact (putSel_off rfl).trans rfl
      replace ha := Aside0.mk ha
      have BK188 := Aside0.mk Q_BK188
      have HB := Aside0.mk Q_HB
      refine value_ (w1 := w') (v := .pointer (some ⟨gb188, 1, none⟩)) (by rfl) rfl ?_ ?_
      · go_simp
        (try simp only [i64_w])
        try rfl
      refine hK.out _ _ ⟨gb193, gb194, m8_, m9_, (by rw [ha.out]; exact putSel_upk 3 hb_ rfl rfl rfl), Q_BK188, Q_HB, Q_NB194_193, Q_NB193_194, Q_BK193, Q_GW193, Q_GE193, Q_NB188_193, Q_NB193_188, Q_BK194, Q_GW194, Q_GE194, Q_NB188_194, Q_NB194_188, fun h0_ => absurd ((hoff 10 (by kernel_rfl)).symm.trans h0_) (by decide), fun h0_ => absurd ((hoff 11 (by kernel_rfl)).symm.trans h0_) (by decide), Q_X8_, Q_X9_⟩
    refine steps_cons ?_ ?_
    · rintro b a w' ⟨gb193, gb194, m8_, m9_, ha, Q_BK188, Q_HB, Q_NB194_193, Q_NB193_194, Q_BK193, Q_GW193, Q_GE193, Q_NB188_193, Q_NB193_188, Q_BK194, Q_GW194, Q_GE194, Q_NB188_194, Q_NB194_188, Q_BK193_e10, Q_BK194_e11, Q_X8_, Q_X9_⟩ hb_ hon hoff
      refine ⟨_, rfl, fun K hK => ?_⟩
      have e25 : a.tmps[25]? = some (.pointer (some ⟨gb188, 1, none⟩)) := by rw [ha]; exact putSel_on (e := (5, 25, .pointer (some ⟨gb188, 1, none⟩))) 3 rfl rfl (hon 5 (by kernel_rfl)) rfl
      replace ha := Aside0.mk ha
      have BK188 := Aside0.mk Q_BK188
      have HB := Aside0.mk Q_HB
      have hc0_ : w'.cell? ⟨gb188, 0, none⟩ = some (.int .u8 a3_0) := (blk_cell BK188.out 0).trans rfl
      have hc1_ : w'.cell? ⟨gb188, 1, none⟩ = some (.int .u8 a3_1) := (blk_cell BK188.out 1).trans rfl
      refine value_ (w1 := w') (v := .int .u8 a3_1) (by rfl) rfl ?_ ?_
      · go_simp
        (try simp only [i64_w])
        try rfl
      refine hK.out _ _ ⟨gb193, gb194, m8_, m9_, (by rw [ha.out]; exact putSel_upk 4 hb_ rfl rfl rfl), Q_BK188, Q_HB, Q_NB194_193, Q_NB193_194, Q_BK193, Q_GW193, Q_GE193, Q_NB188_193, Q_NB193_188, Q_BK194, Q_GW194, Q_GE194, Q_NB188_194, Q_NB194_188, fun h0_ => absurd ((hoff 10 (by kernel_rfl)).symm.trans h0_) (by decide), fun h0_ => absurd ((hoff 11 (by kernel_rfl)).symm.trans h0_) (by decide), Q_X8_, Q_X9_⟩
    refine steps_cons ?_ ?_
    · rintro b a w' ⟨gb193, gb194, m8_, m9_, ha, Q_BK188, Q_HB, Q_NB194_193, Q_NB193_194, Q_BK193, Q_GW193, Q_GE193, Q_NB188_193, Q_NB193_188, Q_BK194, Q_GW194, Q_GE194, Q_NB188_194, Q_NB194_188, Q_BK193_e10, Q_BK194_e11, Q_X8_, Q_X9_⟩ hb_ hon hoff
      refine ⟨_, rfl, fun K hK => ?_⟩
      have e24 : a.tmps[24]? = some (.int .i32 a2) := by rw [ha]; exact (putSel_off rfl).trans rfl
      have e26 : a.tmps[26]? = some (.int .u8 a3_1) := by rw [ha]; exact putSel_on (e := (6, 26, .int .u8 a3_1)) 4 rfl rfl (hon 6 (by kernel_rfl)) rfl
      replace ha := Aside0.mk ha
      have BK188 := Aside0.mk Q_BK188
      have HB := Aside0.mk Q_HB
      refine goes_ Tryd.func8 (by kernel_rfl) rfl #[.int .i32 a2, .int .u8 a3_1] (by rfl) rfl rfl (by first | (simp only [List.map_toArray, List.map_cons, List.map_nil, Act.eval, Array.getD_eq_getD_getElem?, Option.getD_some, e24, e26]; done) | (simp only [List.map_toArray, List.map_cons, List.map_nil, Act.eval, Array.getD_eq_getD_getElem?, Option.getD_some, e24, e26]; rfl)) ?_
      with_reducible refine (timeboundlaw08_of.calls a2 a3_1 t191 t192 _ A8.out).mono ?_
      rintro e w14 ⟨rfl, hb⟩
      refine ⟨_, rfl, ?_⟩
      have n0_ := Aside0.mk (blk_below (g := gb188) (o := .cells #[.int .u8 a3_0, .int .u8 a3_1] 22 (0, 0)) (by (with_reducible repeat (first | refine blk_drewN ?_ _ | refine blk_drew ?_ | refine blk_alloc ?_ _)); exact BK188.out) hb)
      have n1_ := Aside0.mk (below_step (by repeat (first | (with_reducible first | exact HB.out | apply below_alloc | apply pw_below_drewN | apply below_drew1 | refine below_set ?_ GE188.out) | exact HB.out)) hb)
      have z_BK193 := fun (h0_ : b 8 = true) (h1_ : b 10 = false) => (show w14.heap[gb193]? = some (.cells #[.int .i64 0, .int .i64 0] 25 (0, 0)) from by first | exact (blk_below (g := gb193) (o := .cells #[.int .i64 0, .int .i64 0] 25 (0, 0)) (by (with_reducible repeat (first | refine blk_drewN ?_ _ | refine blk_drew ?_ | refine blk_alloc ?_ _)); exact (Q_BK193 h0_ h1_)) hb))
      have z_BK194 := fun (h0_ : b 9 = true) (h1_ : b 11 = false) => (show w14.heap[gb194]? = some (.cells #[.int .i64 0, .int .i64 0] 25 (0, 0)) from by first | exact (blk_below (g := gb194) (o := .cells #[.int .i64 0, .int .i64 0] 25 (0, 0)) (by (with_reducible repeat (first | refine blk_drewN ?_ _ | refine blk_drew ?_ | refine blk_alloc ?_ _)); exact (Q_BK194 h0_ h1_)) hb))
      clear BK188
      clear HB
      have BK188 := n0_
      have HB := n1_
      clear n0_ n1_
      (try clear hb)
      (try clear hb2)
      (try clear hk)
      (try clear hi)
      refine hK.out _ _ ⟨gb193, gb194, m8_, m9_, (by rw [ha.out]; exact putSel_upk 5 hb_ rfl rfl rfl), (by (with_reducible repeat (first | refine blk_drewN ?_ _ | refine blk_drew ?_ | refine blk_alloc ?_ _)); exact BK188.out), (by repeat (first | (with_reducible first | exact HB.out | apply below_alloc | apply pw_below_drewN | apply below_drew1 | refine below_set ?_ GE188.out) | exact HB.out)), Q_NB194_193, Q_NB193_194, z_BK193, Q_GW193, Q_GE193, Q_NB188_193, Q_NB193_188, z_BK194, Q_GW194, Q_GE194, Q_NB188_194, Q_NB194_188, fun h0_ => absurd ((hoff 10 (by kernel_rfl)).symm.trans h0_) (by decide), fun h0_ => absurd ((hoff 11 (by kernel_rfl)).symm.trans h0_) (by decide), Q_X8_, Q_X9_⟩
    refine steps_cons ?_ ?_
    · rintro b a w' ⟨gb193, gb194, m8_, m9_, ha, Q_BK188, Q_HB, Q_NB194_193, Q_NB193_194, Q_BK193, Q_GW193, Q_GE193, Q_NB188_193, Q_NB193_188, Q_BK194, Q_GW194, Q_GE194, Q_NB188_194, Q_NB194_188, Q_BK193_e10, Q_BK194_e11, Q_X8_, Q_X9_⟩ hb_ hon hoff
      refine ⟨_, rfl, fun K hK => ?_⟩
      replace ha := Aside0.mk ha
      have BK188 := Aside0.mk Q_BK188
      have HB := Aside0.mk Q_HB
      refine box_step ?hg (N := 13) ?hd (cs := #[.int .i64 0, .int .i64 0]) (t := 25) ?hr ?_; (case hd => rfl); (case hg => rfl); (case hr => first | (go_simp; done) | (go_simp; rfl))
      intro gb193 hg w12 hbox hb
      have n0_ := Aside0.mk (blk_below (g := gb188) (o := .cells #[.int .u8 a3_0, .int .u8 a3_1] 22 (0, 0)) (by (with_reducible repeat (first | refine blk_drewN ?_ _ | refine blk_drew ?_ | refine blk_alloc ?_ _)); exact BK188.out) hb)
      have n1_ := Aside0.mk (below_step (by repeat (first | (with_reducible first | exact HB.out | apply below_alloc | apply pw_below_drewN | apply below_drew1 | refine below_set ?_ GE188.out) | exact HB.out)) hb)
      have n2_ := Aside0.mk (hbox)
      have n3_ := Aside0.mk ((by rw [hg]; exact (below_size (by repeat (first | (with_reducible first | exact HB.out | apply below_alloc | apply pw_below_drewN | apply below_drew1 | refine below_set ?_ GE188.out) | exact HB.out))) : w.heap.size ≤ gb193))
      have n4_ := Aside0.mk ((by rw [hg]; exact (below_size (by repeat (first | (with_reducible first | exact HB.out | apply below_alloc | apply pw_below_drewN | apply below_drew1 | refine below_set ?_ GE188.out) | exact HB.out))) : w.heap.size ≤ gb193))
      have n5_ := Aside0.mk ((by rw [hg]; exact Nat.ne_of_lt (blk_lt (g := gb188) (o := .cells #[.int .u8 a3_0, .int .u8 a3_1] 22 (0, 0)) (by (with_reducible repeat (first | refine blk_drewN ?_ _ | refine blk_drew ?_ | refine blk_alloc ?_ _)); exact BK188.out)) : gb188 ≠ gb193))
      have n6_ := Aside0.mk ((by rw [hg]; exact Nat.ne_of_gt (blk_lt (g := gb188) (o := .cells #[.int .u8 a3_0, .int .u8 a3_1] 22 (0, 0)) (by (with_reducible repeat (first | refine blk_drewN ?_ _ | refine blk_drew ?_ | refine blk_alloc ?_ _)); exact BK188.out)) : gb193 ≠ gb188))
      have z_NB194_193 := fun (h0_ : up b 8 8 = true) (h1_ : up b 8 9 = true) => (show gb194 ≠ gb193 from ((by rw [hg]; exact Nat.ne_of_lt (blk_lt (g := gb194) (o := .cells #[.int .i64 0, .int .i64 0] 25 (0, 0)) (by (with_reducible repeat (first | refine blk_drewN ?_ _ | refine blk_drew ?_ | refine blk_alloc ?_ _)); exact (Q_BK194 h1_ (hoff 11 (by kernel_rfl))))) : gb194 ≠ gb193)))
      have z_NB193_194 := fun (h0_ : up b 8 8 = true) (h1_ : up b 8 9 = true) => (show gb193 ≠ gb194 from ((by rw [hg]; exact Nat.ne_of_gt (blk_lt (g := gb194) (o := .cells #[.int .i64 0, .int .i64 0] 25 (0, 0)) (by (with_reducible repeat (first | refine blk_drewN ?_ _ | refine blk_drew ?_ | refine blk_alloc ?_ _)); exact (Q_BK194 h1_ (hoff 11 (by kernel_rfl))))) : gb193 ≠ gb194)))
      have z_BK194 := fun (h0_ : b 9 = true) (h1_ : b 11 = false) => (show w12.heap[gb194]? = some (.cells #[.int .i64 0, .int .i64 0] 25 (0, 0)) from by first | exact (blk_below (g := gb194) (o := .cells #[.int .i64 0, .int .i64 0] 25 (0, 0)) (by (with_reducible repeat (first | refine blk_drewN ?_ _ | refine blk_drew ?_ | refine blk_alloc ?_ _)); exact (Q_BK194 h0_ h1_)) hb))
      clear BK188
      clear HB
      have BK188 := n0_
      have HB := n1_
      have BK193 := n2_
      have GW193 := n3_
      have GE193 := n4_
      have NB188_193 := n5_
      have NB193_188 := n6_
      clear n0_ n1_ n2_ n3_ n4_ n5_ n6_
      clear hb hbox hg
      refine hK.out _ _ ⟨gb193, gb194, (.pointer (some ⟨gb193, 0, none⟩)), m9_, (by rw [ha.out]; exact putSel_upk 6 hb_ rfl rfl rfl), (by (with_reducible repeat (first | refine blk_drewN ?_ _ | refine blk_drew ?_ | refine blk_alloc ?_ _)); exact BK188.out), (by repeat (first | (with_reducible first | exact HB.out | apply below_alloc | apply pw_below_drewN | apply below_drew1 | refine below_set ?_ GE188.out | refine below_set ?_ GE193.out) | exact HB.out)), z_NB194_193, z_NB193_194, fun _ _ => (by (with_reducible repeat (first | refine blk_drewN ?_ _ | refine blk_drew ?_ | refine blk_alloc ?_ _)); exact BK193.out), fun _ => GW193.out, fun _ => GE193.out, fun _ => NB188_193.out, fun _ => NB193_188.out, z_BK194, Q_GW194, Q_GE194, Q_NB188_194, Q_NB194_188, fun h0_ => absurd ((hoff 10 (by kernel_rfl)).symm.trans h0_) (by decide), fun h0_ => absurd ((hoff 11 (by kernel_rfl)).symm.trans h0_) (by decide), fun _ => rfl, Q_X9_⟩
    refine steps_cons ?_ ?_
    · rintro b a w' ⟨gb193, gb194, m8_, m9_, ha, Q_BK188, Q_HB, Q_NB194_193, Q_NB193_194, Q_BK193, Q_GW193, Q_GE193, Q_NB188_193, Q_NB193_188, Q_BK194, Q_GW194, Q_GE194, Q_NB188_194, Q_NB194_188, Q_BK193_e10, Q_BK194_e11, Q_X8_, Q_X9_⟩ hb_ hon hoff
      refine ⟨_, rfl, fun K hK => ?_⟩
      replace ha := Aside0.mk ha
      have BK188 := Aside0.mk Q_BK188
      have HB := Aside0.mk Q_HB
      refine box_step ?hg (N := 14) ?hd (cs := #[.int .i64 0, .int .i64 0]) (t := 25) ?hr ?_; (case hd => rfl); (case hg => rfl); (case hr => first | (go_simp; done) | (go_simp; rfl))
      intro gb194 hg w12 hbox hb
      have n0_ := Aside0.mk (blk_below (g := gb188) (o := .cells #[.int .u8 a3_0, .int .u8 a3_1] 22 (0, 0)) (by (with_reducible repeat (first | refine blk_drewN ?_ _ | refine blk_drew ?_ | refine blk_alloc ?_ _)); exact BK188.out) hb)
      have n1_ := Aside0.mk (below_step (by repeat (first | (with_reducible first | exact HB.out | apply below_alloc | apply pw_below_drewN | apply below_drew1 | refine below_set ?_ GE188.out) | exact HB.out)) hb)
      have n2_ := Aside0.mk (hbox)
      have n3_ := Aside0.mk ((by rw [hg]; exact (below_size (by repeat (first | (with_reducible first | exact HB.out | apply below_alloc | apply pw_below_drewN | apply below_drew1 | refine below_set ?_ GE188.out) | exact HB.out))) : w.heap.size ≤ gb194))
      have n4_ := Aside0.mk ((by rw [hg]; exact (below_size (by repeat (first | (with_reducible first | exact HB.out | apply below_alloc | apply pw_below_drewN | apply below_drew1 | refine below_set ?_ GE188.out) | exact HB.out))) : w.heap.size ≤ gb194))
      have n5_ := Aside0.mk ((by rw [hg]; exact Nat.ne_of_lt (blk_lt (g := gb188) (o := .cells #[.int .u8 a3_0, .int .u8 a3_1] 22 (0, 0)) (by (with_reducible repeat (first | refine blk_drewN ?_ _ | refine blk_drew ?_ | refine blk_alloc ?_ _)); exact BK188.out)) : gb188 ≠ gb194))
      have n6_ := Aside0.mk ((by rw [hg]; exact Nat.ne_of_gt (blk_lt (g := gb188) (o := .cells #[.int .u8 a3_0, .int .u8 a3_1] 22 (0, 0)) (by (with_reducible repeat (first | refine blk_drewN ?_ _ | refine blk_drew ?_ | refine blk_alloc ?_ _)); exact BK188.out)) : gb194 ≠ gb188))
      have z_NB194_193 := fun (h0_ : up b 9 8 = true) (h1_ : up b 9 9 = true) => (show gb194 ≠ gb193 from ((by rw [hg]; exact Nat.ne_of_gt (blk_lt (g := gb193) (o := .cells #[.int .i64 0, .int .i64 0] 25 (0, 0)) (by (with_reducible repeat (first | refine blk_drewN ?_ _ | refine blk_drew ?_ | refine blk_alloc ?_ _)); exact (Q_BK193 h0_ (hoff 10 (by kernel_rfl))))) : gb194 ≠ gb193)))
      have z_NB193_194 := fun (h0_ : up b 9 8 = true) (h1_ : up b 9 9 = true) => (show gb193 ≠ gb194 from ((by rw [hg]; exact Nat.ne_of_lt (blk_lt (g := gb193) (o := .cells #[.int .i64 0, .int .i64 0] 25 (0, 0)) (by (with_reducible repeat (first | refine blk_drewN ?_ _ | refine blk_drew ?_ | refine blk_alloc ?_ _)); exact (Q_BK193 h0_ (hoff 10 (by kernel_rfl))))) : gb193 ≠ gb194)))
      have z_BK193 := fun (h0_ : b 8 = true) (h1_ : b 10 = false) => (show w12.heap[gb193]? = some (.cells #[.int .i64 0, .int .i64 0] 25 (0, 0)) from by first | exact (blk_below (g := gb193) (o := .cells #[.int .i64 0, .int .i64 0] 25 (0, 0)) (by (with_reducible repeat (first | refine blk_drewN ?_ _ | refine blk_drew ?_ | refine blk_alloc ?_ _)); exact (Q_BK193 h0_ h1_)) hb))
      clear BK188
      clear HB
      have BK188 := n0_
      have HB := n1_
      have BK194 := n2_
      have GW194 := n3_
      have GE194 := n4_
      have NB188_194 := n5_
      have NB194_188 := n6_
      clear n0_ n1_ n2_ n3_ n4_ n5_ n6_
      clear hb hbox hg
      refine hK.out _ _ ⟨gb193, gb194, m8_, (.pointer (some ⟨gb194, 0, none⟩)), (by rw [ha.out]; exact putSel_upk 7 hb_ rfl rfl rfl), (by (with_reducible repeat (first | refine blk_drewN ?_ _ | refine blk_drew ?_ | refine blk_alloc ?_ _)); exact BK188.out), (by repeat (first | (with_reducible first | exact HB.out | apply below_alloc | apply pw_below_drewN | apply below_drew1 | refine below_set ?_ GE188.out | refine below_set ?_ GE194.out) | exact HB.out)), z_NB194_193, z_NB193_194, z_BK193, Q_GW193, Q_GE193, Q_NB188_193, Q_NB193_188, fun _ _ => (by (with_reducible repeat (first | refine blk_drewN ?_ _ | refine blk_drew ?_ | refine blk_alloc ?_ _)); exact BK194.out), fun _ => GW194.out, fun _ => GE194.out, fun _ => NB188_194.out, fun _ => NB194_188.out, fun h0_ => absurd ((hoff 10 (by kernel_rfl)).symm.trans h0_) (by decide), fun h0_ => absurd ((hoff 11 (by kernel_rfl)).symm.trans h0_) (by decide), Q_X8_, fun _ => rfl⟩
    refine steps_cons ?_ ?_
    · rintro b a w' ⟨gb193, gb194, m8_, m9_, ha, Q_BK188, Q_HB, Q_NB194_193, Q_NB193_194, Q_BK193, Q_GW193, Q_GE193, Q_NB188_193, Q_NB193_188, Q_BK194, Q_GW194, Q_GE194, Q_NB188_194, Q_NB194_188, Q_BK193_e10, Q_BK194_e11, Q_X8_, Q_X9_⟩ hb_ hon hoff
      refine ⟨_, rfl, fun K hK => ?_⟩
      have e13 : a.tmps[13]? = some (m8_) := by rw [ha]; exact putSel_on (e := (8, 13, m8_)) 6 rfl rfl (hon 8 (by kernel_rfl)) rfl
      rw [Q_X8_ (hon 8 (by kernel_rfl))] at e13
      have e23 : a.tmps[23]? = some (.agg #[.int .i64 t189, .int .i64 t190]) := by rw [ha]; exact putSel_on (e := (3, 23, .agg #[.int .i64 t189, .int .i64 t190])) 2 rfl rfl (hon 3 (by kernel_rfl)) rfl
      replace ha := Aside0.mk ha
      have BK188 := Aside0.mk Q_BK188
      have HB := Aside0.mk Q_HB
      have NB194_193 := Aside0.mk (Q_NB194_193 (hon 8 (by kernel_rfl)) (hon 9 (by kernel_rfl)))
      have NB193_194 := Aside0.mk (Q_NB193_194 (hon 8 (by kernel_rfl)) (hon 9 (by kernel_rfl)))
      have BK193 := Aside0.mk (Q_BK193 (hon 8 (by kernel_rfl)) hb_)
      have GW193 := Aside0.mk (Q_GW193 (hon 8 (by kernel_rfl)))
      have GE193 := Aside0.mk (Q_GE193 (hon 8 (by kernel_rfl)))
      have NB188_193 := Aside0.mk (Q_NB188_193 (hon 8 (by kernel_rfl)))
      have NB193_188 := Aside0.mk (Q_NB193_188 (hon 8 (by kernel_rfl)))
      have BK194 := Aside0.mk (Q_BK194 (hon 9 (by kernel_rfl)) (hoff 11 (by kernel_rfl)))
      have GW194 := Aside0.mk (Q_GW194 (hon 9 (by kernel_rfl)))
      have GE194 := Aside0.mk (Q_GE194 (hon 9 (by kernel_rfl)))
      have NB188_194 := Aside0.mk (Q_NB188_194 (hon 9 (by kernel_rfl)))
      have NB194_188 := Aside0.mk (Q_NB194_188 (hon 9 (by kernel_rfl)))
      have hs17 : w'.cell? ⟨gb193, 0, none⟩ = some (.int .i64 0) := (blk_cell BK193.out 0).trans rfl
      have hfs17 := blk_frozen BK193.out 0
      have hns17_0 := NB188_193.out
      have hns17_2 := NB194_193.out
      have hms17_0 := NB193_188.out
      have hms17_2 := NB193_194.out
      have hs18 : w'.cell? ⟨gb193, 1, none⟩ = some (.int .i64 0) := (blk_cell BK193.out 1).trans rfl
      have hfs18 := blk_frozen BK193.out 1
      have hns18_0 := NB188_193.out
      have hns18_2 := NB194_193.out
      have hms18_0 := NB193_188.out
      have hms18_2 := NB193_194.out
      refine skip_ (w1 := ?_) (by rfl) rfl ?_ ?_
      rotate_left
      · go_simp
        rfl
      refine hK.out _ _ ⟨gb193, gb194, m8_, m9_, (by rw [ha.out]; exact putSel_none (v := undef) rfl), (by (with_reducible repeat (first | refine blk_drewN ?_ _ | refine blk_drew ?_ | refine blk_alloc ?_ _)); refine blk_far ?_ NB188_193.out _; (with_reducible repeat (first | refine blk_drewN ?_ _ | refine blk_drew ?_ | refine blk_alloc ?_ _)); refine blk_far ?_ NB188_193.out _; (with_reducible repeat (first | refine blk_drewN ?_ _ | refine blk_drew ?_ | refine blk_alloc ?_ _)); exact BK188.out), (by repeat (first | (with_reducible first | exact HB.out | apply below_alloc | apply pw_below_drewN | apply below_drew1 | refine below_set ?_ GE188.out | refine below_set ?_ GE193.out | refine below_set ?_ GE194.out) | exact HB.out)), fun _ _ => NB194_193.out, fun _ _ => NB193_194.out, fun _ h1_ => absurd ((up_self b 10).symm.trans h1_) (by decide), fun _ => GW193.out, fun _ => GE193.out, fun _ => NB188_193.out, fun _ => NB193_188.out, fun _ _ => (by (with_reducible repeat (first | refine blk_drewN ?_ _ | refine blk_drew ?_ | refine blk_alloc ?_ _)); refine blk_far ?_ NB194_193.out _; (with_reducible repeat (first | refine blk_drewN ?_ _ | refine blk_drew ?_ | refine blk_alloc ?_ _)); refine blk_far ?_ NB194_193.out _; (with_reducible repeat (first | refine blk_drewN ?_ _ | refine blk_drew ?_ | refine blk_alloc ?_ _)); exact BK194.out), fun _ => GW194.out, fun _ => GE194.out, fun _ => NB188_194.out, fun _ => NB194_188.out, fun _ => (by (with_reducible repeat (first | refine blk_drewN ?_ _ | refine blk_drew ?_ | refine blk_alloc ?_ _)); refine blk_put (cs := #[.int .i64 t189, .int .i64 0]) ?_ 1 _ rfl; (with_reducible repeat (first | refine blk_drewN ?_ _ | refine blk_drew ?_ | refine blk_alloc ?_ _)); refine blk_put (cs := #[.int .i64 0, .int .i64 0]) ?_ 0 _ rfl; (with_reducible repeat (first | refine blk_drewN ?_ _ | refine blk_drew ?_ | refine blk_alloc ?_ _)); exact BK193.out), fun h0_ => absurd ((hoff 11 (by kernel_rfl)).symm.trans h0_) (by decide), Q_X8_, Q_X9_⟩
    refine steps_cons ?_ ?_
    · rintro b a w' ⟨gb193, gb194, m8_, m9_, ha, Q_BK188, Q_HB, Q_NB194_193, Q_NB193_194, Q_BK193, Q_GW193, Q_GE193, Q_NB188_193, Q_NB193_188, Q_BK194, Q_GW194, Q_GE194, Q_NB188_194, Q_NB194_188, Q_BK193_e10, Q_BK194_e11, Q_X8_, Q_X9_⟩ hb_ hon hoff
      refine ⟨_, rfl, fun K hK => ?_⟩
      have e14 : a.tmps[14]? = some (m9_) := by rw [ha]; exact putSel_on (e := (9, 14, m9_)) 7 rfl rfl (hon 9 (by kernel_rfl)) rfl
      rw [Q_X9_ (hon 9 (by kernel_rfl))] at e14
      have e27 : a.tmps[27]? = some (.agg #[.int .i64 t191, .int .i64 t192]) := by rw [ha]; exact putSel_on (e := (7, 27, .agg #[.int .i64 t191, .int .i64 t192])) 5 rfl rfl (hon 7 (by kernel_rfl)) rfl
      replace ha := Aside0.mk ha
      have BK188 := Aside0.mk Q_BK188
      have HB := Aside0.mk Q_HB
      have NB194_193 := Aside0.mk (Q_NB194_193 (hon 8 (by kernel_rfl)) (hon 9 (by kernel_rfl)))
      have NB193_194 := Aside0.mk (Q_NB193_194 (hon 8 (by kernel_rfl)) (hon 9 (by kernel_rfl)))
      have GW193 := Aside0.mk (Q_GW193 (hon 8 (by kernel_rfl)))
      have GE193 := Aside0.mk (Q_GE193 (hon 8 (by kernel_rfl)))
      have NB188_193 := Aside0.mk (Q_NB188_193 (hon 8 (by kernel_rfl)))
      have NB193_188 := Aside0.mk (Q_NB193_188 (hon 8 (by kernel_rfl)))
      have BK194 := Aside0.mk (Q_BK194 (hon 9 (by kernel_rfl)) hb_)
      have GW194 := Aside0.mk (Q_GW194 (hon 9 (by kernel_rfl)))
      have GE194 := Aside0.mk (Q_GE194 (hon 9 (by kernel_rfl)))
      have NB188_194 := Aside0.mk (Q_NB188_194 (hon 9 (by kernel_rfl)))
      have NB194_188 := Aside0.mk (Q_NB194_188 (hon 9 (by kernel_rfl)))
      have BK193 := Aside0.mk (Q_BK193_e10 (hon 10 (by kernel_rfl)))
      have hs19 : w'.cell? ⟨gb194, 0, none⟩ = some (.int .i64 0) := (blk_cell BK194.out 0).trans rfl
      have hfs19 := blk_frozen BK194.out 0
      have hns19_0 := NB188_194.out
      have hns19_1 := NB193_194.out
      have hms19_0 := NB194_188.out
      have hms19_1 := NB194_193.out
      have hs20 : w'.cell? ⟨gb194, 1, none⟩ = some (.int .i64 0) := (blk_cell BK194.out 1).trans rfl
      have hfs20 := blk_frozen BK194.out 1
      have hns20_0 := NB188_194.out
      have hns20_1 := NB193_194.out
      have hms20_0 := NB194_188.out
      have hms20_1 := NB194_193.out
      refine skip_ (w1 := ?_) (by rfl) rfl ?_ ?_
      rotate_left
      · go_simp
        rfl
      refine hK.out _ _ ⟨gb193, gb194, m8_, m9_, (by rw [ha.out]; exact putSel_none (v := undef) rfl), (by (with_reducible repeat (first | refine blk_drewN ?_ _ | refine blk_drew ?_ | refine blk_alloc ?_ _)); refine blk_far ?_ NB188_194.out _; (with_reducible repeat (first | refine blk_drewN ?_ _ | refine blk_drew ?_ | refine blk_alloc ?_ _)); refine blk_far ?_ NB188_194.out _; (with_reducible repeat (first | refine blk_drewN ?_ _ | refine blk_drew ?_ | refine blk_alloc ?_ _)); exact BK188.out), (by repeat (first | (with_reducible first | exact HB.out | apply below_alloc | apply pw_below_drewN | apply below_drew1 | refine below_set ?_ GE188.out | refine below_set ?_ GE193.out | refine below_set ?_ GE194.out) | exact HB.out)), fun _ _ => NB194_193.out, fun _ _ => NB193_194.out, fun _ h1_ => absurd ((hon 10 (by kernel_rfl)).symm.trans h1_) (by decide), fun _ => GW193.out, fun _ => GE193.out, fun _ => NB188_193.out, fun _ => NB193_188.out, fun _ h1_ => absurd ((up_self b 11).symm.trans h1_) (by decide), fun _ => GW194.out, fun _ => GE194.out, fun _ => NB188_194.out, fun _ => NB194_188.out, fun _ => (by (with_reducible repeat (first | refine blk_drewN ?_ _ | refine blk_drew ?_ | refine blk_alloc ?_ _)); refine blk_far ?_ NB193_194.out _; (with_reducible repeat (first | refine blk_drewN ?_ _ | refine blk_drew ?_ | refine blk_alloc ?_ _)); refine blk_far ?_ NB193_194.out _; (with_reducible repeat (first | refine blk_drewN ?_ _ | refine blk_drew ?_ | refine blk_alloc ?_ _)); exact BK193.out), fun _ => (by (with_reducible repeat (first | refine blk_drewN ?_ _ | refine blk_drew ?_ | refine blk_alloc ?_ _)); refine blk_put (cs := #[.int .i64 t191, .int .i64 0]) ?_ 1 _ rfl; (with_reducible repeat (first | refine blk_drewN ?_ _ | refine blk_drew ?_ | refine blk_alloc ?_ _)); refine blk_put (cs := #[.int .i64 0, .int .i64 0]) ?_ 0 _ rfl; (with_reducible repeat (first | refine blk_drewN ?_ _ | refine blk_drew ?_ | refine blk_alloc ?_ _)); exact BK194.out), Q_X8_, Q_X9_⟩
    exact steps_nil
  rintro b a w20 hall ⟨gb193, gb194, m8_, m9_, ha, Q_BK188, Q_HB, Q_NB194_193, Q_NB193_194, Q_BK193, Q_GW193, Q_GE193, Q_NB188_193, Q_NB193_188, Q_BK194, Q_GW194, Q_GE194, Q_NB188_194, Q_NB194_188, Q_BK193_e10, Q_BK194_e11, Q_X8_, Q_X9_⟩
  clear BK188 HB
  have hb1_ := hall 1 (by kernel_rfl)
  have hb2_ := hall 2 (by kernel_rfl)
  have hb3_ := hall 3 (by kernel_rfl)
  have hb5_ := hall 5 (by kernel_rfl)
  have hb6_ := hall 6 (by kernel_rfl)
  have hb7_ := hall 7 (by kernel_rfl)
  have hb8_ := hall 8 (by kernel_rfl)
  have hb9_ := hall 9 (by kernel_rfl)
  have hb10_ := hall 10 (by kernel_rfl)
  have hb11_ := hall 11 (by kernel_rfl)
  subst ha
  obtain rfl := Q_X8_ hb8_
  obtain rfl := Q_X9_ hb9_
  simp only [putSel, hb1_, hb2_, hb3_, hb5_, hb6_, hb7_, hb8_, hb9_, hb10_, hb11_, if_true, Act.put, List.setIfInBounds_toArray, List.set_cons_zero, List.set_cons_succ]
  have BK188 := Aside0.mk Q_BK188
  clear Q_BK188
  have HB := Aside0.mk Q_HB
  clear Q_HB
  have NB194_193 := Aside0.mk (Q_NB194_193 hb8_ hb9_)
  clear Q_NB194_193
  have NB193_194 := Aside0.mk (Q_NB193_194 hb8_ hb9_)
  clear Q_NB193_194
  clear Q_BK193
  have GW193 := Aside0.mk (Q_GW193 hb8_)
  clear Q_GW193
  have GE193 := Aside0.mk (Q_GE193 hb8_)
  clear Q_GE193
  have NB188_193 := Aside0.mk (Q_NB188_193 hb8_)
  clear Q_NB188_193
  have NB193_188 := Aside0.mk (Q_NB193_188 hb8_)
  clear Q_NB193_188
  clear Q_BK194
  have GW194 := Aside0.mk (Q_GW194 hb9_)
  clear Q_GW194
  have GE194 := Aside0.mk (Q_GE194 hb9_)
  clear Q_GE194
  have NB188_194 := Aside0.mk (Q_NB188_194 hb9_)
  clear Q_NB188_194
  have NB194_188 := Aside0.mk (Q_NB194_188 hb9_)
  clear Q_NB194_188
  have BK193 := Aside0.mk (Q_BK193_e10 hb10_)
  clear Q_BK193_e10
  have BK194 := Aside0.mk (Q_BK194_e11 hb11_)
  clear Q_BK194_e11
  clear hall hb1_ hb2_ hb3_ hb5_ hb6_ hb7_ hb8_ hb9_ hb10_ hb11_
  go_upto_region 2 with (fail)
  go_cut [35] (fun v35 wc => ∃ (kq : Nat) (x35_8 : Bool), v35 = .bool x35_8 ∧ Aside0 (timeboundlaw08_CongruenceSound.j0 kq a0 a4 a5 x35_8 t189 t190 t191 t192 = some r) ∧ Aside0 (kq ≤ k) ∧ Aside0 (wc.heap[gb188]? = some (.cells #[.int .u8 a3_0, .int .u8 a3_1] 22 (0, 0))) ∧ Aside0 (wc.heap[gb193]? = some (.cells #[.int .i64 t189, .int .i64 t190] 25 (0, 0))) ∧ Aside0 (wc.heap[gb194]? = some (.cells #[.int .i64 t191, .int .i64 t192] 25 (0, 0))) ∧ Aside0 (Below w.heap.size w wc))
  case first =>
    have H := HC9.out
    clear HC9
    replace H := Option.bind_eq_some_iff.mp H
    obtain ⟨⟨t195, t196⟩, A210, H⟩ := H
    replace H : (if (t189 == t195 && (t190 == t196)) = true then (timeboundlaw08_CongruenceSound.j0 k a0 a4 a5 true t189 t190 t191 t192) else ((congruence_None.f).bind fun bt197 => (timeboundlaw08_CongruenceSound.j0 k a0 a4 a5 (t191 == bt197.1 && (t192 == bt197.2)) t189 t190 t191 t192))) = some r := H
    have A21 := Aside0.mk A210
    clear A210
    by_cases c22 : (t189 == t195 && (t190 == t196)) = true
    · rw [if_pos c22] at H
      have c22b0 : (t189 == t195 && (t190 == t196)) = true := c22
      (try (have c22b1 : decide (t189 = t195 && (t190 == t196)) = true := by simpa using c22))
      (try (have c22b2 : (t189 == t195 && (t190 == t196)) = true := by simpa using c22))
      clear c22
      (first | rw [c22b0] | (simp only [i64_w, i32_w]; rw [c22b0]) | skip)
      have H' := Aside0.mk H
      clear H
      try go_wp2
      have n0_ := Aside0.mk (blk_drew BK188.out)
      have n1_ := Aside0.mk (blk_drew BK193.out)
      have n2_ := Aside0.mk (blk_drew BK194.out)
      have n3_ := Aside0.mk (below_drew1 HB.out)
      clear BK188
      clear BK193
      clear BK194
      clear HB
      have BK188 := n0_
      have BK193 := n1_
      have BK194 := n2_
      have HB := n3_
      clear n0_ n1_ n2_ n3_
      refine start_ (n := 8) (S := fun w' => w'.cell? ⟨gb193, 0, none⟩ = some (.int .i64 t189) ∧ w'.cell? ⟨gb193, 1, none⟩ = some (.int .i64 t190)) (ds := []) #[false, false, false, false, false, false, false, false] (by kernel_rfl) rfl rfl ⟨(blk_cell BK193.out 0).trans rfl, (blk_cell BK193.out 1).trans rfl⟩ (fun hHeld => ?_); refine with_tabW timeboundlaw08_CongruenceSound.tab2 timeboundlaw08_CongruenceSound.bits2 (fun HT_ HW_ => ?_)
      generalize w20.drew = w23 at BK188 BK193 BK194 HB hHeld ⊢
      refine take_ (i := 0) (N := some 28) (v := ?_) (a' := ?_) #[true, false, false, false, false, false, false, false] rfl rfl (take_ofW HT_.out HW_.out (by kernel_rfl)) (fun _ _ _ h => h) (Or.inl ⟨by rfl, ?_⟩) hHeld ?_ ?_
      rotate_left
      · rintro w' ⟨s0, s1⟩
        go_simp
        with_reducible rfl
      rotate_left
      · simp only [Act.put, List.setIfInBounds_toArray, List.set_cons_zero, List.set_cons_succ, i64_w, i32_w]
        rfl
      refine one_ (i := 1) (N := some 29) #[true, true, false, false, false, false, false, false] rfl rfl (one_of HT_.out (by kernel_rfl)) (by decide) (fun K hK => ?_)
      refine goes_ Tryd.func9 (by kernel_rfl) rfl #[] (by rfl) rfl rfl (by (try simp only [List.map_toArray, List.map_cons, List.map_nil]); first | done | rfl | (simp only [List.length_drop, List.length_take]; rfl)) ?_
      with_reducible refine (congruence_None.calls  t195 t196 _ A21.out).mono ?_
      rintro e w24 ⟨rfl, hb⟩
      refine ⟨_, rfl, ?_⟩
      have n0_ := Aside0.mk (blk_below (g := gb188) (o := .cells #[.int .u8 a3_0, .int .u8 a3_1] 22 (0, 0)) (by (with_reducible repeat (first | refine blk_drewN ?_ _ | refine blk_drew ?_ | refine blk_alloc ?_ _)); exact BK188.out) hb)
      have n1_ := Aside0.mk (blk_below (g := gb193) (o := .cells #[.int .i64 t189, .int .i64 t190] 25 (0, 0)) (by (with_reducible repeat (first | refine blk_drewN ?_ _ | refine blk_drew ?_ | refine blk_alloc ?_ _)); exact BK193.out) hb)
      have n2_ := Aside0.mk (blk_below (g := gb194) (o := .cells #[.int .i64 t191, .int .i64 t192] 25 (0, 0)) (by (with_reducible repeat (first | refine blk_drewN ?_ _ | refine blk_drew ?_ | refine blk_alloc ?_ _)); exact BK194.out) hb)
      have n3_ := Aside0.mk (below_step (by repeat (first | (with_reducible first | exact HB.out | apply below_alloc | apply pw_below_drewN | apply below_drew1 | refine below_set ?_ GE188.out | refine below_set ?_ GE193.out | refine below_set ?_ GE194.out) | exact HB.out)) hb)
      clear BK188
      clear BK193
      clear BK194
      clear HB
      have BK188 := n0_
      have BK193 := n1_
      have BK194 := n2_
      have HB := n3_
      clear n0_ n1_ n2_ n3_
      (try clear hb)
      (try clear hb2)
      (try clear hk)
      (try clear hi)
      refine hK.out _ _ ⟨(blk_cell BK193.out 0).trans rfl, (blk_cell BK193.out 1).trans rfl⟩ (fun hHeld => ?_)
      clear hK K
      refine norm_ (a' := ?_) ?_ ?_
      rotate_left
      · show Act.put _ (some 29) _ = _
        simp only [Act.put, List.setIfInBounds_toArray, List.set_cons_zero, List.set_cons_succ, i64_w, i32_w]
        rfl
      refine pure_ (i := 2) (N := some 30) (v := ?_) (a' := ?_) #[true, true, true, false, false, false, false, false] rfl rfl (any_of HT_.out (by kernel_rfl)) (fun _ _ _ h => h) (Or.inl ⟨by rfl, ?_⟩) ?_ ?_
      rotate_left
      · intro w'
        go_simp
        with_reducible rfl
      rotate_left
      · simp only [Act.put, List.setIfInBounds_toArray, List.set_cons_zero, List.set_cons_succ, i64_w, i32_w]
        rfl
      refine pure_ (i := 3) (N := some 31) (v := ?_) (a' := ?_) #[true, true, true, true, false, false, false, false] rfl rfl (any_of HT_.out (by kernel_rfl)) (fun _ _ _ h => h) (Or.inl ⟨by rfl, ?_⟩) ?_ ?_
      rotate_left
      · intro w'
        go_simp
        with_reducible rfl
      rotate_left
      · simp only [Act.put, List.setIfInBounds_toArray, List.set_cons_zero, List.set_cons_succ, i64_w, i32_w]
        rfl
      refine pure_ (i := 4) (N := some 32) (v := undef) (a' := ?_) #[true, true, true, true, true, false, false, false] rfl rfl (any_of HT_.out (by kernel_rfl)) (fun _ _ _ h => h) (Or.inr ⟨by rfl, rfl⟩) ?_ ?_
      rotate_left
      · simp only [Act.put, List.setIfInBounds_toArray, List.set_cons_zero, List.set_cons_succ, i64_w, i32_w]
        rfl
      refine pure_ (i := 5) (N := some 33) (v := undef) (a' := ?_) #[true, true, true, true, true, true, false, false] rfl rfl (any_of HT_.out (by kernel_rfl)) (fun _ _ _ h => h) (Or.inr ⟨by rfl, rfl⟩) ?_ ?_
      rotate_left
      · simp only [Act.put, List.setIfInBounds_toArray, List.set_cons_zero, List.set_cons_succ, i64_w, i32_w]
        rfl
      refine pure_ (i := 6) (N := some 34) (v := undef) (a' := ?_) #[true, true, true, true, true, true, true, false] rfl rfl (any_of HT_.out (by kernel_rfl)) (fun _ _ _ h => h) (Or.inr ⟨by rfl, rfl⟩) ?_ ?_
      rotate_left
      · simp only [Act.put, List.setIfInBounds_toArray, List.set_cons_zero, List.set_cons_succ, i64_w, i32_w]
        rfl
      refine pure_ (i := 7) (N := some 35) (v := ?_) (a' := ?_) #[true, true, true, true, true, true, true, true] rfl rfl (any_of HT_.out (by kernel_rfl)) (fun _ _ _ h => h) (Or.inl ⟨by rfl, ?_⟩) ?_ ?_
      rotate_left
      · intro w'
        go_simp
        with_reducible rfl
      rotate_left
      · simp only [Act.put, List.setIfInBounds_toArray, List.set_cons_zero, List.set_cons_succ, i64_w, i32_w]
        rfl
      refine done_ (done_of HT_.out (by kernel_rfl)) ?_
      try go_wp2
      go_meet
      case rel => exact ⟨_, (true), (by first | rfl | (simp; done) | (simp [*]; done)), H', ⟨by first | omega | exact Nat.le_refl _⟩, ⟨by (with_reducible repeat (first | refine blk_drewN ?_ _ | refine blk_drew ?_ | refine blk_alloc ?_ _)); exact BK188.out⟩, ⟨by (with_reducible repeat (first | refine blk_drewN ?_ _ | refine blk_drew ?_ | refine blk_alloc ?_ _)); exact BK193.out⟩, ⟨by (with_reducible repeat (first | refine blk_drewN ?_ _ | refine blk_drew ?_ | refine blk_alloc ?_ _)); exact BK194.out⟩, ⟨by repeat (first | (with_reducible first | exact HB.out | apply below_alloc | apply pw_below_drewN | apply below_drew1 | refine below_set ?_ GE188.out | refine below_set ?_ GE193.out | refine below_set ?_ GE194.out) | exact HB.out)⟩⟩
    · rw [if_neg c22] at H
      have c22b0 : (t189 == t195 && (t190 == t196)) = false := by simpa using c22
      (try (have c22b1 : decide (t189 = t195 && (t190 == t196)) = false := by simpa using c22))
      (try (have c22b2 : (t189 == t195 && (t190 == t196)) = false := by simpa using c22))
      (try (have c22b3 : ¬ (t189 = t195 && (t190 == t196)) := by simpa using c22))
      clear c22
      (first | rw [c22b0] | (simp only [i64_w, i32_w]; rw [c22b0]) | skip)
      replace H := Option.bind_eq_some_iff.mp H
      obtain ⟨⟨t197, t198⟩, A250, H⟩ := H
      replace H : (timeboundlaw08_CongruenceSound.j0 k a0 a4 a5 (t191 == t197 && (t192 == t198)) t189 t190 t191 t192) = some r := H
      have A25 := Aside0.mk A250
      clear A250
      have H' := Aside0.mk H
      clear H
      try go_wp2
      have n0_ := Aside0.mk (blk_drew BK188.out)
      have n1_ := Aside0.mk (blk_drew BK193.out)
      have n2_ := Aside0.mk (blk_drew BK194.out)
      have n3_ := Aside0.mk (below_drew1 HB.out)
      clear BK188
      clear BK193
      clear BK194
      clear HB
      have BK188 := n0_
      have BK193 := n1_
      have BK194 := n2_
      have HB := n3_
      clear n0_ n1_ n2_ n3_
      refine start_ (n := 8) (S := fun w' => w'.cell? ⟨gb193, 0, none⟩ = some (.int .i64 t189) ∧ w'.cell? ⟨gb193, 1, none⟩ = some (.int .i64 t190) ∧ w'.cell? ⟨gb194, 0, none⟩ = some (.int .i64 t191) ∧ w'.cell? ⟨gb194, 1, none⟩ = some (.int .i64 t192)) (ds := []) #[false, false, false, false, false, false, false, false] (by kernel_rfl) rfl rfl ⟨(blk_cell BK193.out 0).trans rfl, (blk_cell BK193.out 1).trans rfl, (blk_cell BK194.out 0).trans rfl, (blk_cell BK194.out 1).trans rfl⟩ (fun hHeld => ?_); refine with_tabW timeboundlaw08_CongruenceSound.tab2 timeboundlaw08_CongruenceSound.bits2 (fun HT_ HW_ => ?_)
      generalize w20.drew = w26 at BK188 BK193 BK194 HB hHeld ⊢
      refine take_ (i := 0) (N := some 28) (v := ?_) (a' := ?_) #[true, false, false, false, false, false, false, false] rfl rfl (take_ofW HT_.out HW_.out (by kernel_rfl)) (fun _ _ _ h => h) (Or.inl ⟨by rfl, ?_⟩) hHeld ?_ ?_
      rotate_left
      · rintro w' ⟨s0, s1, s2, s3⟩
        go_simp
        with_reducible rfl
      rotate_left
      · simp only [Act.put, List.setIfInBounds_toArray, List.set_cons_zero, List.set_cons_succ, i64_w, i32_w]
        rfl
      refine one_ (i := 1) (N := some 29) #[true, true, false, false, false, false, false, false] rfl rfl (one_of HT_.out (by kernel_rfl)) (by decide) (fun K hK => ?_)
      refine goes_ Tryd.func9 (by kernel_rfl) rfl #[] (by rfl) rfl rfl (by (try simp only [List.map_toArray, List.map_cons, List.map_nil]); first | done | rfl | (simp only [List.length_drop, List.length_take]; rfl)) ?_
      with_reducible refine (congruence_None.calls  t195 t196 _ A21.out).mono ?_
      rintro e w27 ⟨rfl, hb⟩
      refine ⟨_, rfl, ?_⟩
      have n0_ := Aside0.mk (blk_below (g := gb188) (o := .cells #[.int .u8 a3_0, .int .u8 a3_1] 22 (0, 0)) (by (with_reducible repeat (first | refine blk_drewN ?_ _ | refine blk_drew ?_ | refine blk_alloc ?_ _)); exact BK188.out) hb)
      have n1_ := Aside0.mk (blk_below (g := gb193) (o := .cells #[.int .i64 t189, .int .i64 t190] 25 (0, 0)) (by (with_reducible repeat (first | refine blk_drewN ?_ _ | refine blk_drew ?_ | refine blk_alloc ?_ _)); exact BK193.out) hb)
      have n2_ := Aside0.mk (blk_below (g := gb194) (o := .cells #[.int .i64 t191, .int .i64 t192] 25 (0, 0)) (by (with_reducible repeat (first | refine blk_drewN ?_ _ | refine blk_drew ?_ | refine blk_alloc ?_ _)); exact BK194.out) hb)
      have n3_ := Aside0.mk (below_step (by repeat (first | (with_reducible first | exact HB.out | apply below_alloc | apply pw_below_drewN | apply below_drew1 | refine below_set ?_ GE188.out | refine below_set ?_ GE193.out | refine below_set ?_ GE194.out) | exact HB.out)) hb)
      clear BK188
      clear BK193
      clear BK194
      clear HB
      have BK188 := n0_
      have BK193 := n1_
      have BK194 := n2_
      have HB := n3_
      clear n0_ n1_ n2_ n3_
      (try clear hb)
      (try clear hb2)
      (try clear hk)
      (try clear hi)
      refine hK.out _ _ ⟨(blk_cell BK193.out 0).trans rfl, (blk_cell BK193.out 1).trans rfl, (blk_cell BK194.out 0).trans rfl, (blk_cell BK194.out 1).trans rfl⟩ (fun hHeld => ?_)
      clear hK K
      refine norm_ (a' := ?_) ?_ ?_
      rotate_left
      · show Act.put _ (some 29) _ = _
        simp only [Act.put, List.setIfInBounds_toArray, List.set_cons_zero, List.set_cons_succ, i64_w, i32_w]
        rfl
      refine pure_ (i := 2) (N := some 30) (v := ?_) (a' := ?_) #[true, true, true, false, false, false, false, false] rfl rfl (any_of HT_.out (by kernel_rfl)) (fun _ _ _ h => h) (Or.inl ⟨by rfl, ?_⟩) ?_ ?_
      rotate_left
      · intro w'
        go_simp
        with_reducible rfl
      rotate_left
      · simp only [Act.put, List.setIfInBounds_toArray, List.set_cons_zero, List.set_cons_succ, i64_w, i32_w]
        rfl
      refine pure_ (i := 3) (N := some 31) (v := ?_) (a' := ?_) #[true, true, true, true, false, false, false, false] rfl rfl (any_of HT_.out (by kernel_rfl)) (fun _ _ _ h => h) (Or.inl ⟨by rfl, ?_⟩) ?_ ?_
      rotate_left
      · intro w'
        go_simp
        with_reducible rfl
      rotate_left
      · simp only [Act.put, List.setIfInBounds_toArray, List.set_cons_zero, List.set_cons_succ, i64_w, i32_w]
        rfl
      refine take_ (i := 4) (N := some 32) (v := ?_) (a' := ?_) #[true, true, true, true, true, false, false, false] rfl rfl (take_ofW HT_.out HW_.out (by kernel_rfl)) (fun _ _ _ h => h) (Or.inl ⟨by rfl, ?_⟩) hHeld ?_ ?_
      rotate_left
      · rintro w' ⟨s0, s1, s2, s3⟩
        go_simp
        with_reducible rfl
      rotate_left
      · simp only [Act.put, List.setIfInBounds_toArray, List.set_cons_zero, List.set_cons_succ, i64_w, i32_w]
        rfl
      refine one_ (i := 5) (N := some 33) #[true, true, true, true, true, true, false, false] rfl rfl (one_of HT_.out (by kernel_rfl)) (by decide) (fun K hK => ?_)
      refine goes_ Tryd.func9 (by kernel_rfl) rfl #[] (by rfl) rfl rfl (by (try simp only [List.map_toArray, List.map_cons, List.map_nil]); first | done | rfl | (simp only [List.length_drop, List.length_take]; rfl)) ?_
      with_reducible refine (congruence_None.calls  t197 t198 _ A25.out).mono ?_
      rintro e w28 ⟨rfl, hb⟩
      refine ⟨_, rfl, ?_⟩
      have n0_ := Aside0.mk (blk_below (g := gb188) (o := .cells #[.int .u8 a3_0, .int .u8 a3_1] 22 (0, 0)) (by (with_reducible repeat (first | refine blk_drewN ?_ _ | refine blk_drew ?_ | refine blk_alloc ?_ _)); exact BK188.out) hb)
      have n1_ := Aside0.mk (blk_below (g := gb193) (o := .cells #[.int .i64 t189, .int .i64 t190] 25 (0, 0)) (by (with_reducible repeat (first | refine blk_drewN ?_ _ | refine blk_drew ?_ | refine blk_alloc ?_ _)); exact BK193.out) hb)
      have n2_ := Aside0.mk (blk_below (g := gb194) (o := .cells #[.int .i64 t191, .int .i64 t192] 25 (0, 0)) (by (with_reducible repeat (first | refine blk_drewN ?_ _ | refine blk_drew ?_ | refine blk_alloc ?_ _)); exact BK194.out) hb)
      have n3_ := Aside0.mk (below_step (by repeat (first | (with_reducible first | exact HB.out | apply below_alloc | apply pw_below_drewN | apply below_drew1 | refine below_set ?_ GE188.out | refine below_set ?_ GE193.out | refine below_set ?_ GE194.out) | exact HB.out)) hb)
      clear BK188
      clear BK193
      clear BK194
      clear HB
      have BK188 := n0_
      have BK193 := n1_
      have BK194 := n2_
      have HB := n3_
      clear n0_ n1_ n2_ n3_
      (try clear hb)
      (try clear hb2)
      (try clear hk)
      (try clear hi)
      refine hK.out _ _ ⟨(blk_cell BK193.out 0).trans rfl, (blk_cell BK193.out 1).trans rfl, (blk_cell BK194.out 0).trans rfl, (blk_cell BK194.out 1).trans rfl⟩ (fun hHeld => ?_)
      clear hK K
      refine norm_ (a' := ?_) ?_ ?_
      rotate_left
      · show Act.put _ (some 33) _ = _
        simp only [Act.put, List.setIfInBounds_toArray, List.set_cons_zero, List.set_cons_succ, i64_w, i32_w]
        rfl
      refine pure_ (i := 6) (N := some 34) (v := ?_) (a' := ?_) #[true, true, true, true, true, true, true, false] rfl rfl (any_of HT_.out (by kernel_rfl)) (fun _ _ _ h => h) (Or.inl ⟨by rfl, ?_⟩) ?_ ?_
      rotate_left
      · intro w'
        go_simp
        with_reducible rfl
      rotate_left
      · simp only [Act.put, List.setIfInBounds_toArray, List.set_cons_zero, List.set_cons_succ, i64_w, i32_w]
        rfl
      refine pure_ (i := 7) (N := some 35) (v := ?_) (a' := ?_) #[true, true, true, true, true, true, true, true] rfl rfl (any_of HT_.out (by kernel_rfl)) (fun _ _ _ h => h) (Or.inl ⟨by rfl, ?_⟩) ?_ ?_
      rotate_left
      · intro w'
        go_simp
        with_reducible rfl
      rotate_left
      · simp only [Act.put, List.setIfInBounds_toArray, List.set_cons_zero, List.set_cons_succ, i64_w, i32_w]
        rfl
      refine done_ (done_of HT_.out (by kernel_rfl)) ?_
      try go_wp2
      go_meet
      case rel => exact ⟨_, ((t191 == t197 && (t192 == t198))), (by first | rfl | (simp; done) | (simp [*]; done)), H', ⟨by first | omega | exact Nat.le_refl _⟩, ⟨by (with_reducible repeat (first | refine blk_drewN ?_ _ | refine blk_drew ?_ | refine blk_alloc ?_ _)); exact BK188.out⟩, ⟨by (with_reducible repeat (first | refine blk_drewN ?_ _ | refine blk_drew ?_ | refine blk_alloc ?_ _)); exact BK193.out⟩, ⟨by (with_reducible repeat (first | refine blk_drewN ?_ _ | refine blk_drew ?_ | refine blk_alloc ?_ _)); exact BK194.out⟩, ⟨by repeat (first | (with_reducible first | exact HB.out | apply below_alloc | apply pw_below_drewN | apply below_drew1 | refine below_set ?_ GE188.out | refine below_set ?_ GE193.out | refine below_set ?_ GE194.out) | exact HB.out)⟩⟩
  case rest =>
    clear HC9
    try clear c1
    try clear c2
    try clear p2
    try clear c3
    try clear c8
    try clear c9
    try clear c22
    try clear c22b0
    try clear c22b1
    try clear c22b2
    obtain ⟨kq, x35_8, rfl, HA, HJ8, BK188, BK193, BK194, HB⟩ := hcut
    cases kq with
    | zero => exact absurd HA.out (by simp [timeboundlaw08_CongruenceSound.j0])
    | succ kj8 =>
      have H := HA.out
      clear HA
      simp only [timeboundlaw08_CongruenceSound.j0] at H
      by_cases c29 : x35_8 = true
      · subst c29
        have H1 : ((congruence_Do.f kj8 (wrap64 (1 + (Int.tmod (wrap64 (a0)) 14))) t189 t190 t191 t192).bind fun bt199 => ((congruence_None.f).bind fun bt201 => (if (bt199.1 == bt201.1 && (bt199.2 == bt201.2)) = true then ((timeboundlaw08_awake.f kj8).bind fun t203 => (some t203)) else (none)))) = some r := by rw [if_pos rfl] at H; exact H
        clear H
        have H := H1
        clear H1
        replace H := Option.bind_eq_some_iff.mp H
        obtain ⟨⟨t199, t200⟩, A300, H⟩ := H
        replace H : ((congruence_None.f).bind fun bt201 => (if (t199 == bt201.1 && (t200 == bt201.2)) = true then ((timeboundlaw08_awake.f kj8).bind fun t203 => (some t203)) else (none))) = some r := H
        have A30 := Aside0.mk A300
        clear A300
        replace H := Option.bind_eq_some_iff.mp H
        obtain ⟨⟨t201, t202⟩, A310, H⟩ := H
        replace H : (if (t199 == t201 && (t200 == t202)) = true then ((timeboundlaw08_awake.f kj8).bind fun t203 => (some t203)) else (none)) = some r := H
        have A31 := Aside0.mk A310
        clear A310
        by_cases c32 : (t199 == t201 && (t200 == t202)) = true
        · rw [if_pos c32] at H
          have c32b0 : (t199 == t201 && (t200 == t202)) = true := c32
          (try (have c32b1 : decide (t199 = t201 && (t200 == t202)) = true := by simpa using c32))
          (try (have c32b2 : (t199 == t201 && (t200 == t202)) = true := by simpa using c32))
          clear c32
          replace H := Option.bind_eq_some_iff.mp H
          obtain ⟨t203, A330, H⟩ := H
          replace H : (some t203) = some r := H
          have A33 := Aside0.mk A330
          clear A330
          obtain rfl := Option.some.inj H
          have hnb34 := NB193_188.out
          have hnc34 := NB188_193.out
          have hnb35 := NB193_194.out
          have hnc35 := NB194_193.out
          have hcz36_0 : wc.cell? ⟨gb193, 0, none⟩ = some (.int .i64 t189) := (blk_cell BK193.out 0).trans rfl
          have hcz36_1 : wc.cell? ⟨gb193, 1, none⟩ = some (.int .i64 t190) := (blk_cell BK193.out 1).trans rfl
          have hfz36_0 := blk_frozen BK193.out 0
          have hfz36_1 := blk_frozen BK193.out 1
          have hnb37 := NB194_188.out
          have hnc37 := NB188_194.out
          have hcz38_0 : wc.cell? ⟨gb194, 0, none⟩ = some (.int .i64 t191) := (blk_cell BK194.out 0).trans rfl
          have hcz38_1 : wc.cell? ⟨gb194, 1, none⟩ = some (.int .i64 t192) := (blk_cell BK194.out 1).trans rfl
          have hfz38_0 := blk_frozen BK194.out 0
          have hfz38_1 := blk_frozen BK194.out 1
          go_wp2_with (first | ((with_reducible refine gate_callee (f := 10) rfl ?_); refine goesL_ (some 42) rfl rfl Tryd.func10 (by kernel_rfl) rfl #[.int .i64 (wrap64 (1 + (Int.tmod (wrap64 (a0)) 14))), .agg #[.int .i64 t189, .int .i64 t190], .agg #[.int .i64 t191, .int .i64 t192]] rfl (by (try simp only [List.map_toArray, List.map_cons, List.map_nil]); first | done | rfl | (simp only [List.length_drop, List.length_take]; rfl)) ?_; (with_reducible refine (congruence_Do.calls kj8 (wrap64 (1 + (Int.tmod (wrap64 (a0)) 14))) t189 t190 t191 t192 t199 t200 _ A30.out (Go.Proofs.YtaphfmbloappkaaDoor.TabOK.below hT.out (by repeat (first | (with_reducible first | exact HB.out | apply below_alloc | apply pw_below_drewN | apply below_drew1 | refine below_set ?_ GE188.out | refine below_set ?_ GE193.out | refine below_set ?_ GE194.out) | exact HB.out)))).mono ?_); rintro e w39 ⟨rfl, hb⟩; refine ⟨_, rfl, ?_⟩; have n0_ := Aside0.mk (blk_below (g := gb188) (o := .cells #[.int .u8 a3_0, .int .u8 a3_1] 22 (0, 0)) (by (with_reducible repeat (first | refine blk_drewN ?_ _ | refine blk_drew ?_ | refine blk_alloc ?_ _)); exact BK188.out) hb); have n1_ := Aside0.mk (blk_below (g := gb193) (o := .cells #[.int .i64 t189, .int .i64 t190] 25 (0, 0)) (by (with_reducible repeat (first | refine blk_drewN ?_ _ | refine blk_drew ?_ | refine blk_alloc ?_ _)); exact BK193.out) hb); have n2_ := Aside0.mk (blk_below (g := gb194) (o := .cells #[.int .i64 t191, .int .i64 t192] 25 (0, 0)) (by (with_reducible repeat (first | refine blk_drewN ?_ _ | refine blk_drew ?_ | refine blk_alloc ?_ _)); exact BK194.out) hb); have n3_ := Aside0.mk (below_step (by repeat (first | (with_reducible first | exact HB.out | apply below_alloc | apply pw_below_drewN | apply below_drew1 | refine below_set ?_ GE188.out | refine below_set ?_ GE193.out | refine below_set ?_ GE194.out) | exact HB.out)) hb); clear BK188; clear BK193; clear BK194; clear HB; have BK188 := n0_; have BK193 := n1_; have BK194 := n2_; have HB := n3_; clear n0_ n1_ n2_ n3_; (try clear hb); (try clear hb2); (try clear hk); (try clear hi)) | ((with_reducible refine gate_callee (f := 9) rfl ?_); refine goesL_ (some 43) rfl rfl Tryd.func9 (by kernel_rfl) rfl #[] rfl (by (try simp only [List.map_toArray, List.map_cons, List.map_nil]); first | done | rfl | (simp only [List.length_drop, List.length_take]; rfl)) ?_; (with_reducible refine (congruence_None.calls  t201 t202 _ A31.out).mono ?_); rintro e w40 ⟨rfl, hb⟩; refine ⟨_, rfl, ?_⟩; have n0_ := Aside0.mk (blk_below (g := gb188) (o := .cells #[.int .u8 a3_0, .int .u8 a3_1] 22 (0, 0)) (by (with_reducible repeat (first | refine blk_drewN ?_ _ | refine blk_drew ?_ | refine blk_alloc ?_ _)); exact BK188.out) hb); have n1_ := Aside0.mk (blk_below (g := gb193) (o := .cells #[.int .i64 t189, .int .i64 t190] 25 (0, 0)) (by (with_reducible repeat (first | refine blk_drewN ?_ _ | refine blk_drew ?_ | refine blk_alloc ?_ _)); exact BK193.out) hb); have n2_ := Aside0.mk (blk_below (g := gb194) (o := .cells #[.int .i64 t191, .int .i64 t192] 25 (0, 0)) (by (with_reducible repeat (first | refine blk_drewN ?_ _ | refine blk_drew ?_ | refine blk_alloc ?_ _)); exact BK194.out) hb); have n3_ := Aside0.mk (below_step (by repeat (first | (with_reducible first | exact HB.out | apply below_alloc | apply pw_below_drewN | apply below_drew1 | refine below_set ?_ GE188.out | refine below_set ?_ GE193.out | refine below_set ?_ GE194.out) | exact HB.out)) hb); clear BK188; clear BK193; clear BK194; clear HB; have BK188 := n0_; have BK193 := n1_; have BK194 := n2_; have HB := n3_; clear n0_ n1_ n2_ n3_; (try clear hb); (try clear hb2); (try clear hk); (try clear hi)) | (go_at_call 11; (with_reducible refine (timeboundlaw08_awake.calls kj8  t203 _ A33.out (Go.Proofs.YtaphfmbloappkaaDoor.TabOK.below hT.out (by repeat (first | (with_reducible first | exact HB.out | apply below_alloc | apply pw_below_drewN | apply below_drew1 | refine below_set ?_ GE188.out | refine below_set ?_ GE193.out | refine below_set ?_ GE194.out) | exact HB.out)))).mono ?_); rintro e w41 ⟨rfl, hb⟩; have n0_ := Aside0.mk (blk_below (g := gb188) (o := .cells #[.int .u8 a3_0, .int .u8 a3_1] 22 (0, 0)) (by (with_reducible repeat (first | refine blk_drewN ?_ _ | refine blk_drew ?_ | refine blk_alloc ?_ _)); exact BK188.out) hb); have n1_ := Aside0.mk (blk_below (g := gb193) (o := .cells #[.int .i64 t189, .int .i64 t190] 25 (0, 0)) (by (with_reducible repeat (first | refine blk_drewN ?_ _ | refine blk_drew ?_ | refine blk_alloc ?_ _)); exact BK193.out) hb); have n2_ := Aside0.mk (blk_below (g := gb194) (o := .cells #[.int .i64 t191, .int .i64 t192] 25 (0, 0)) (by (with_reducible repeat (first | refine blk_drewN ?_ _ | refine blk_drew ?_ | refine blk_alloc ?_ _)); exact BK194.out) hb); have n3_ := Aside0.mk (below_step (by repeat (first | (with_reducible first | exact HB.out | apply below_alloc | apply pw_below_drewN | apply below_drew1 | refine below_set ?_ GE188.out | refine below_set ?_ GE193.out | refine below_set ?_ GE194.out) | exact HB.out)) hb); clear BK188; clear BK193; clear BK194; clear HB; have BK188 := n0_; have BK193 := n1_; have BK194 := n2_; have HB := n3_; clear n0_ n1_ n2_ n3_; (try clear hb); (try clear hb2); (try clear hk); (try clear hi)))
          go_ret
          exact ⟨by first | rfl | (simp [errW_none, errW_some] <;> rfl) | (simp [*, errW_none, errW_some] <;> rfl), by repeat (first | (with_reducible first | exact HB.out | apply below_alloc | apply pw_below_drewN | apply below_drew1 | refine below_set ?_ GE188.out | refine below_set ?_ GE193.out | refine below_set ?_ GE194.out) | exact HB.out)⟩
        · rw [if_neg c32] at H
          exact absurd H (by simp)
      · replace c29 := Bool.eq_false_iff.mpr c29
        subst c29
        have H1 : ((timeboundlaw08_member.f t189 t190 a4).bind fun t204 => ((timeboundlaw08_member.f t191 t192 a5).bind fun t205 => ((timeboundref01_Do.f (wrap64 (1 + (Int.tmod (wrap64 (a0)) 14))) t204 t205).bind fun bt206 => ((congruence_Do.f kj8 (wrap64 (1 + (Int.tmod (wrap64 (a0)) 14))) t189 t190 t191 t192).bind fun bt208 => ((congruence_Has.f kj8 t189 t190 t204).bind fun t211 => (if t211 = true then ((congruence_Has.f kj8 t191 t192 t205).bind fun t212 => (if t212 = true then ((congruence_Has.f kj8 bt208.1 bt208.2 bt206.1).bind fun t213 => (if t213 = true then ((congruence_Valid.f bt208.1 bt208.2).bind fun t214 => (if t214 = true then ((timeboundlaw08_awake.f kj8).bind fun t215 => (some t215)) else (none))) else (none))) else (none))) else (none))))))) = some r := by rw [if_neg (show ¬ (false = true) by decide)] at H; exact H
        clear H
        have H := H1
        clear H1
        replace H := Option.bind_eq_some_iff.mp H
        obtain ⟨t204, A420, H⟩ := H
        replace H : ((timeboundlaw08_member.f t191 t192 a5).bind fun t205 => ((timeboundref01_Do.f (wrap64 (1 + (Int.tmod (wrap64 (a0)) 14))) t204 t205).bind fun bt206 => ((congruence_Do.f kj8 (wrap64 (1 + (Int.tmod (wrap64 (a0)) 14))) t189 t190 t191 t192).bind fun bt208 => ((congruence_Has.f kj8 t189 t190 t204).bind fun t211 => (if t211 = true then ((congruence_Has.f kj8 t191 t192 t205).bind fun t212 => (if t212 = true then ((congruence_Has.f kj8 bt208.1 bt208.2 bt206.1).bind fun t213 => (if t213 = true then ((congruence_Valid.f bt208.1 bt208.2).bind fun t214 => (if t214 = true then ((timeboundlaw08_awake.f kj8).bind fun t215 => (some t215)) else (none))) else (none))) else (none))) else (none)))))) = some r := H
        have A42 := Aside0.mk A420
        clear A420
        replace H := Option.bind_eq_some_iff.mp H
        obtain ⟨t205, A430, H⟩ := H
        replace H : ((timeboundref01_Do.f (wrap64 (1 + (Int.tmod (wrap64 (a0)) 14))) t204 t205).bind fun bt206 => ((congruence_Do.f kj8 (wrap64 (1 + (Int.tmod (wrap64 (a0)) 14))) t189 t190 t191 t192).bind fun bt208 => ((congruence_Has.f kj8 t189 t190 t204).bind fun t211 => (if t211 = true then ((congruence_Has.f kj8 t191 t192 t205).bind fun t212 => (if t212 = true then ((congruence_Has.f kj8 bt208.1 bt208.2 bt206.1).bind fun t213 => (if t213 = true then ((congruence_Valid.f bt208.1 bt208.2).bind fun t214 => (if t214 = true then ((timeboundlaw08_awake.f kj8).bind fun t215 => (some t215)) else (none))) else (none))) else (none))) else (none))))) = some r := H
        have A43 := Aside0.mk A430
        clear A430
        replace H := Option.bind_eq_some_iff.mp H
        obtain ⟨⟨t206, t207⟩, A440, H⟩ := H
        replace H : ((congruence_Do.f kj8 (wrap64 (1 + (Int.tmod (wrap64 (a0)) 14))) t189 t190 t191 t192).bind fun bt208 => ((congruence_Has.f kj8 t189 t190 t204).bind fun t211 => (if t211 = true then ((congruence_Has.f kj8 t191 t192 t205).bind fun t212 => (if t212 = true then ((congruence_Has.f kj8 bt208.1 bt208.2 t206).bind fun t213 => (if t213 = true then ((congruence_Valid.f bt208.1 bt208.2).bind fun t214 => (if t214 = true then ((timeboundlaw08_awake.f kj8).bind fun t215 => (some t215)) else (none))) else (none))) else (none))) else (none)))) = some r := H
        have A44 := Aside0.mk A440
        clear A440
        replace H := Option.bind_eq_some_iff.mp H
        obtain ⟨⟨t208, t209⟩, A450, H⟩ := H
        replace H : ((congruence_Has.f kj8 t189 t190 t204).bind fun t211 => (if t211 = true then ((congruence_Has.f kj8 t191 t192 t205).bind fun t212 => (if t212 = true then ((congruence_Has.f kj8 t208 t209 t206).bind fun t213 => (if t213 = true then ((congruence_Valid.f t208 t209).bind fun t214 => (if t214 = true then ((timeboundlaw08_awake.f kj8).bind fun t215 => (some t215)) else (none))) else (none))) else (none))) else (none))) = some r := H
        have A45 := Aside0.mk A450
        clear A450
        replace H := Option.bind_eq_some_iff.mp H
        obtain ⟨t211, A460, H⟩ := H
        replace H : (if t211 = true then ((congruence_Has.f kj8 t191 t192 t205).bind fun t212 => (if t212 = true then ((congruence_Has.f kj8 t208 t209 t206).bind fun t213 => (if t213 = true then ((congruence_Valid.f t208 t209).bind fun t214 => (if t214 = true then ((timeboundlaw08_awake.f kj8).bind fun t215 => (some t215)) else (none))) else (none))) else (none))) else (none)) = some r := H
        have A46 := Aside0.mk A460
        clear A460
        by_cases c47 : t211 = true
        · subst c47
          have H1 : ((congruence_Has.f kj8 t191 t192 t205).bind fun t212 => (if t212 = true then ((congruence_Has.f kj8 t208 t209 t206).bind fun t213 => (if t213 = true then ((congruence_Valid.f t208 t209).bind fun t214 => (if t214 = true then ((timeboundlaw08_awake.f kj8).bind fun t215 => (some t215)) else (none))) else (none))) else (none))) = some r := by rw [if_pos rfl] at H; exact H
          clear H
          have H := H1
          clear H1
          replace H := Option.bind_eq_some_iff.mp H
          obtain ⟨t212, A480, H⟩ := H
          replace H : (if t212 = true then ((congruence_Has.f kj8 t208 t209 t206).bind fun t213 => (if t213 = true then ((congruence_Valid.f t208 t209).bind fun t214 => (if t214 = true then ((timeboundlaw08_awake.f kj8).bind fun t215 => (some t215)) else (none))) else (none))) else (none)) = some r := H
          have A48 := Aside0.mk A480
          clear A480
          by_cases c49 : t212 = true
          · subst c49
            have H1 : ((congruence_Has.f kj8 t208 t209 t206).bind fun t213 => (if t213 = true then ((congruence_Valid.f t208 t209).bind fun t214 => (if t214 = true then ((timeboundlaw08_awake.f kj8).bind fun t215 => (some t215)) else (none))) else (none))) = some r := by rw [if_pos rfl] at H; exact H
            clear H
            have H := H1
            clear H1
            replace H := Option.bind_eq_some_iff.mp H
            obtain ⟨t213, A500, H⟩ := H
            replace H : (if t213 = true then ((congruence_Valid.f t208 t209).bind fun t214 => (if t214 = true then ((timeboundlaw08_awake.f kj8).bind fun t215 => (some t215)) else (none))) else (none)) = some r := H
            have A50 := Aside0.mk A500
            clear A500
            by_cases c51 : t213 = true
            · subst c51
              have H1 : ((congruence_Valid.f t208 t209).bind fun t214 => (if t214 = true then ((timeboundlaw08_awake.f kj8).bind fun t215 => (some t215)) else (none))) = some r := by rw [if_pos rfl] at H; exact H
              clear H
              have H := H1
              clear H1
              replace H := Option.bind_eq_some_iff.mp H
              obtain ⟨t214, A520, H⟩ := H
              replace H : (if t214 = true then ((timeboundlaw08_awake.f kj8).bind fun t215 => (some t215)) else (none)) = some r := H
              have A52 := Aside0.mk A520
              clear A520
              by_cases c53 : t214 = true
              · subst c53
                have H1 : ((timeboundlaw08_awake.f kj8).bind fun t215 => (some t215)) = some r := by rw [if_pos rfl] at H; exact H
                clear H
                have H := H1
                clear H1
                replace H := Option.bind_eq_some_iff.mp H
                obtain ⟨t215, A540, H⟩ := H
                replace H : (some t215) = some r := H
                have A54 := Aside0.mk A540
                clear A540
                obtain rfl := Option.some.inj H
                try go_wp2
                have n0_ := Aside0.mk (blk_drew BK188.out)
                have n1_ := Aside0.mk (blk_drew BK193.out)
                have n2_ := Aside0.mk (blk_drew BK194.out)
                have n3_ := Aside0.mk (below_drew1 HB.out)
                clear BK188
                clear BK193
                clear BK194
                clear HB
                have BK188 := n0_
                have BK193 := n1_
                have BK194 := n2_
                have HB := n3_
                clear n0_ n1_ n2_ n3_
                refine start_ (n := 8) (S := fun w' => w'.cell? ⟨gb193, 0, none⟩ = some (.int .i64 t189) ∧ w'.cell? ⟨gb193, 1, none⟩ = some (.int .i64 t190) ∧ w'.cell? ⟨gb194, 0, none⟩ = some (.int .i64 t191) ∧ w'.cell? ⟨gb194, 1, none⟩ = some (.int .i64 t192)) (ds := []) #[false, false, false, false, false, false, false, false] (by kernel_rfl) rfl rfl ⟨(blk_cell BK193.out 0).trans rfl, (blk_cell BK193.out 1).trans rfl, (blk_cell BK194.out 0).trans rfl, (blk_cell BK194.out 1).trans rfl⟩ (fun hHeld => ?_); refine with_tabW timeboundlaw08_CongruenceSound.tab4 timeboundlaw08_CongruenceSound.bits4 (fun HT_ HW_ => ?_)
                generalize wc.drew = w55 at BK188 BK193 BK194 HB hHeld ⊢
                refine pure_ (i := 1) (N := some 49) (v := ?_) (a' := ?_) #[false, true, false, false, false, false, false, false] rfl rfl (any_of HT_.out (by kernel_rfl)) (fun _ _ _ h => h) (Or.inl ⟨by rfl, ?_⟩) ?_ ?_
                rotate_left
                · intro w'
                  go_simp
                  with_reducible rfl
                rotate_left
                · simp only [Act.put, List.setIfInBounds_toArray, List.set_cons_zero, List.set_cons_succ, i64_w, i32_w]
                  rfl
                refine pure_ (i := 4) (N := some 52) (v := ?_) (a' := ?_) #[false, true, false, false, true, false, false, false] rfl rfl (any_of HT_.out (by kernel_rfl)) (fun _ _ _ h => h) (Or.inl ⟨by rfl, ?_⟩) ?_ ?_
                rotate_left
                · intro w'
                  go_simp
                  with_reducible rfl
                rotate_left
                · simp only [Act.put, List.setIfInBounds_toArray, List.set_cons_zero, List.set_cons_succ, i64_w, i32_w]
                  rfl
                refine take_ (i := 0) (N := some 48) (v := ?_) (a' := ?_) #[true, true, false, false, true, false, false, false] rfl rfl (take_ofW HT_.out HW_.out (by kernel_rfl)) (fun _ _ _ h => h) (Or.inl ⟨by rfl, ?_⟩) hHeld ?_ ?_
                rotate_left
                · rintro w' ⟨s0, s1, s2, s3⟩
                  go_simp
                  with_reducible rfl
                rotate_left
                · simp only [Act.put, List.setIfInBounds_toArray, List.set_cons_zero, List.set_cons_succ, i64_w, i32_w]
                  rfl
                refine take_ (i := 3) (N := some 51) (v := ?_) (a' := ?_) #[true, true, false, true, true, false, false, false] rfl rfl (take_ofW HT_.out HW_.out (by kernel_rfl)) (fun _ _ _ h => h) (Or.inl ⟨by rfl, ?_⟩) hHeld ?_ ?_
                rotate_left
                · rintro w' ⟨s0, s1, s2, s3⟩
                  go_simp
                  with_reducible rfl
                rotate_left
                · simp only [Act.put, List.setIfInBounds_toArray, List.set_cons_zero, List.set_cons_succ, i64_w, i32_w]
                  rfl
                refine one_ (i := 2) (N := some 50) #[true, true, true, true, true, false, false, false] rfl rfl (one_of HT_.out (by kernel_rfl)) (by decide) (fun K hK => ?_)
                refine goes_ Tryd.func12 (by kernel_rfl) rfl #[.agg #[.int .i64 t189, .int .i64 t190], .int .u32 a4] (by rfl) rfl rfl (by (try simp only [List.map_toArray, List.map_cons, List.map_nil]); first | done | rfl | (simp only [List.length_drop, List.length_take]; rfl)) ?_
                with_reducible refine (timeboundlaw08_member.calls t189 t190 a4 t204 _ A42.out).mono ?_
                rintro e w56 ⟨rfl, hb⟩
                refine ⟨_, rfl, ?_⟩
                have n0_ := Aside0.mk (blk_below (g := gb188) (o := .cells #[.int .u8 a3_0, .int .u8 a3_1] 22 (0, 0)) (by (with_reducible repeat (first | refine blk_drewN ?_ _ | refine blk_drew ?_ | refine blk_alloc ?_ _)); exact BK188.out) hb)
                have n1_ := Aside0.mk (blk_below (g := gb193) (o := .cells #[.int .i64 t189, .int .i64 t190] 25 (0, 0)) (by (with_reducible repeat (first | refine blk_drewN ?_ _ | refine blk_drew ?_ | refine blk_alloc ?_ _)); exact BK193.out) hb)
                have n2_ := Aside0.mk (blk_below (g := gb194) (o := .cells #[.int .i64 t191, .int .i64 t192] 25 (0, 0)) (by (with_reducible repeat (first | refine blk_drewN ?_ _ | refine blk_drew ?_ | refine blk_alloc ?_ _)); exact BK194.out) hb)
                have n3_ := Aside0.mk (below_step (by repeat (first | (with_reducible first | exact HB.out | apply below_alloc | apply pw_below_drewN | apply below_drew1 | refine below_set ?_ GE188.out | refine below_set ?_ GE193.out | refine below_set ?_ GE194.out) | exact HB.out)) hb)
                clear BK188
                clear BK193
                clear BK194
                clear HB
                have BK188 := n0_
                have BK193 := n1_
                have BK194 := n2_
                have HB := n3_
                clear n0_ n1_ n2_ n3_
                (try clear hb)
                (try clear hb2)
                (try clear hk)
                (try clear hi)
                refine hK.out _ _ ⟨(blk_cell BK193.out 0).trans rfl, (blk_cell BK193.out 1).trans rfl, (blk_cell BK194.out 0).trans rfl, (blk_cell BK194.out 1).trans rfl⟩ (fun hHeld => ?_)
                clear hK K
                refine norm_ (a' := ?_) ?_ ?_
                rotate_left
                · show Act.put _ (some 50) _ = _
                  simp only [Act.put, List.setIfInBounds_toArray, List.set_cons_zero, List.set_cons_succ, i64_w, i32_w]
                  rfl
                refine one_ (i := 5) (N := some 53) #[true, true, true, true, true, true, false, false] rfl rfl (one_of HT_.out (by kernel_rfl)) (by decide) (fun K hK => ?_)
                refine goes_ Tryd.func12 (by kernel_rfl) rfl #[.agg #[.int .i64 t191, .int .i64 t192], .int .u32 a5] (by rfl) rfl rfl (by (try simp only [List.map_toArray, List.map_cons, List.map_nil]); first | done | rfl | (simp only [List.length_drop, List.length_take]; rfl)) ?_
                with_reducible refine (timeboundlaw08_member.calls t191 t192 a5 t205 _ A43.out).mono ?_
                rintro e w57 ⟨rfl, hb⟩
                refine ⟨_, rfl, ?_⟩
                have n0_ := Aside0.mk (blk_below (g := gb188) (o := .cells #[.int .u8 a3_0, .int .u8 a3_1] 22 (0, 0)) (by (with_reducible repeat (first | refine blk_drewN ?_ _ | refine blk_drew ?_ | refine blk_alloc ?_ _)); exact BK188.out) hb)
                have n1_ := Aside0.mk (blk_below (g := gb193) (o := .cells #[.int .i64 t189, .int .i64 t190] 25 (0, 0)) (by (with_reducible repeat (first | refine blk_drewN ?_ _ | refine blk_drew ?_ | refine blk_alloc ?_ _)); exact BK193.out) hb)
                have n2_ := Aside0.mk (blk_below (g := gb194) (o := .cells #[.int .i64 t191, .int .i64 t192] 25 (0, 0)) (by (with_reducible repeat (first | refine blk_drewN ?_ _ | refine blk_drew ?_ | refine blk_alloc ?_ _)); exact BK194.out) hb)
                have n3_ := Aside0.mk (below_step (by repeat (first | (with_reducible first | exact HB.out | apply below_alloc | apply pw_below_drewN | apply below_drew1 | refine below_set ?_ GE188.out | refine below_set ?_ GE193.out | refine below_set ?_ GE194.out) | exact HB.out)) hb)
                clear BK188
                clear BK193
                clear BK194
                clear HB
                have BK188 := n0_
                have BK193 := n1_
                have BK194 := n2_
                have HB := n3_
                clear n0_ n1_ n2_ n3_
                (try clear hb)
                (try clear hb2)
                (try clear hk)
                (try clear hi)
                refine hK.out _ _ ⟨(blk_cell BK193.out 0).trans rfl, (blk_cell BK193.out 1).trans rfl, (blk_cell BK194.out 0).trans rfl, (blk_cell BK194.out 1).trans rfl⟩ (fun hHeld => ?_)
                clear hK K
                refine norm_ (a' := ?_) ?_ ?_
                rotate_left
                · show Act.put _ (some 53) _ = _
                  simp only [Act.put, List.setIfInBounds_toArray, List.set_cons_zero, List.set_cons_succ, i64_w, i32_w]
                  rfl
                refine pure_ (i := 6) (N := some 15) (v := ?_) (a' := ?_) #[true, true, true, true, true, true, true, false] rfl rfl (any_of HT_.out (by kernel_rfl)) (fun _ _ _ h => h) (Or.inl ⟨by rfl, ?_⟩) ?_ ?_
                rotate_left
                · intro w'
                  go_simp
                  with_reducible rfl
                rotate_left
                · simp only [Act.put, List.setIfInBounds_toArray, List.set_cons_zero, List.set_cons_succ, i64_w, i32_w]
                  rfl
                refine pure_ (i := 7) (N := some 16) (v := ?_) (a' := ?_) #[true, true, true, true, true, true, true, true] rfl rfl (any_of HT_.out (by kernel_rfl)) (fun _ _ _ h => h) (Or.inl ⟨by rfl, ?_⟩) ?_ ?_
                rotate_left
                · intro w'
                  go_simp
                  with_reducible rfl
                rotate_left
                · simp only [Act.put, List.setIfInBounds_toArray, List.set_cons_zero, List.set_cons_succ, i64_w, i32_w]
                  rfl
                refine done_ (done_of HT_.out (by kernel_rfl)) ?_
                try go_wp2_with (first | ((with_reducible refine gate_callee (f := 13) rfl ?_); refine goesL_ (some 61) rfl rfl Tryd.func13 (by kernel_rfl) rfl #[.int .i64 (wrap64 (1 + (Int.tmod (wrap64 (a0)) 14))), .int .i64 t204, .int .i64 t205] rfl (by (try simp only [List.map_toArray, List.map_cons, List.map_nil]); first | done | rfl | (simp only [List.length_drop, List.length_take]; rfl)) ?_; (with_reducible refine (timeboundref01_Do.calls (wrap64 (1 + (Int.tmod (wrap64 (a0)) 14))) t204 t205 t206 t207 _ A44.out).mono ?_); rintro e w58 ⟨rfl, hb⟩; refine ⟨_, rfl, ?_⟩; have n0_ := Aside0.mk (blk_below (g := gb188) (o := .cells #[.int .u8 a3_0, .int .u8 a3_1] 22 (0, 0)) (by (with_reducible repeat (first | refine blk_drewN ?_ _ | refine blk_drew ?_ | refine blk_alloc ?_ _)); exact BK188.out) hb); have n1_ := Aside0.mk (blk_below (g := gb193) (o := .cells #[.int .i64 t189, .int .i64 t190] 25 (0, 0)) (by (with_reducible repeat (first | refine blk_drewN ?_ _ | refine blk_drew ?_ | refine blk_alloc ?_ _)); exact BK193.out) hb); have n2_ := Aside0.mk (blk_below (g := gb194) (o := .cells #[.int .i64 t191, .int .i64 t192] 25 (0, 0)) (by (with_reducible repeat (first | refine blk_drewN ?_ _ | refine blk_drew ?_ | refine blk_alloc ?_ _)); exact BK194.out) hb); have n3_ := Aside0.mk (below_step (by repeat (first | (with_reducible first | exact HB.out | apply below_alloc | apply pw_below_drewN | apply below_drew1 | refine below_set ?_ GE188.out | refine below_set ?_ GE193.out | refine below_set ?_ GE194.out) | exact HB.out)) hb); clear BK188; clear BK193; clear BK194; clear HB; have BK188 := n0_; have BK193 := n1_; have BK194 := n2_; have HB := n3_; clear n0_ n1_ n2_ n3_; (try clear hb); (try clear hb2); (try clear hk); (try clear hi); have hnb59 := NB193_188.out; have hnc59 := NB188_193.out; have hnb60 := NB193_194.out; have hnc60 := NB194_193.out; have hcz61_0 : w58.cell? ⟨gb193, 0, none⟩ = some (.int .i64 t189) := (blk_cell BK193.out 0).trans rfl; have hcz61_1 : w58.cell? ⟨gb193, 1, none⟩ = some (.int .i64 t190) := (blk_cell BK193.out 1).trans rfl; have hfz61_0 := blk_frozen BK193.out 0; have hfz61_1 := blk_frozen BK193.out 1; have hnb62 := NB194_188.out; have hnc62 := NB188_194.out; have hcz63_0 : w58.cell? ⟨gb194, 0, none⟩ = some (.int .i64 t191) := (blk_cell BK194.out 0).trans rfl; have hcz63_1 : w58.cell? ⟨gb194, 1, none⟩ = some (.int .i64 t192) := (blk_cell BK194.out 1).trans rfl; have hfz63_0 := blk_frozen BK194.out 0; have hfz63_1 := blk_frozen BK194.out 1) | ((with_reducible refine gate_callee (f := 10) rfl ?_); refine goesL_ (some 70) rfl rfl Tryd.func10 (by kernel_rfl) rfl #[.int .i64 (wrap64 (1 + (Int.tmod (wrap64 (a0)) 14))), .agg #[.int .i64 t189, .int .i64 t190], .agg #[.int .i64 t191, .int .i64 t192]] rfl (by (try simp only [List.map_toArray, List.map_cons, List.map_nil]); first | done | rfl | (simp only [List.length_drop, List.length_take]; rfl)) ?_; (with_reducible refine (congruence_Do.calls kj8 (wrap64 (1 + (Int.tmod (wrap64 (a0)) 14))) t189 t190 t191 t192 t208 t209 _ A45.out (Go.Proofs.YtaphfmbloappkaaDoor.TabOK.below hT.out (by repeat (first | (with_reducible first | exact HB.out | apply below_alloc | apply pw_below_drewN | apply below_drew1 | refine below_set ?_ GE188.out | refine below_set ?_ GE193.out | refine below_set ?_ GE194.out) | exact HB.out)))).mono ?_); rintro e w64 ⟨rfl, hb⟩; refine ⟨_, rfl, ?_⟩; have n0_ := Aside0.mk (blk_below (g := gb188) (o := .cells #[.int .u8 a3_0, .int .u8 a3_1] 22 (0, 0)) (by (with_reducible repeat (first | refine blk_drewN ?_ _ | refine blk_drew ?_ | refine blk_alloc ?_ _)); exact BK188.out) hb); have n1_ := Aside0.mk (blk_below (g := gb193) (o := .cells #[.int .i64 t189, .int .i64 t190] 25 (0, 0)) (by (with_reducible repeat (first | refine blk_drewN ?_ _ | refine blk_drew ?_ | refine blk_alloc ?_ _)); exact BK193.out) hb); have n2_ := Aside0.mk (blk_below (g := gb194) (o := .cells #[.int .i64 t191, .int .i64 t192] 25 (0, 0)) (by (with_reducible repeat (first | refine blk_drewN ?_ _ | refine blk_drew ?_ | refine blk_alloc ?_ _)); exact BK194.out) hb); have n3_ := Aside0.mk (below_step (by repeat (first | (with_reducible first | exact HB.out | apply below_alloc | apply pw_below_drewN | apply below_drew1 | refine below_set ?_ GE188.out | refine below_set ?_ GE193.out | refine below_set ?_ GE194.out) | exact HB.out)) hb); clear BK188; clear BK193; clear BK194; clear HB; have BK188 := n0_; have BK193 := n1_; have BK194 := n2_; have HB := n3_; clear n0_ n1_ n2_ n3_; (try clear hb); (try clear hb2); (try clear hk); (try clear hi)) | ((with_reducible refine gate_dst (N := 19) rfl ?_); refine box_event ?hg (N := 19) ?hd (cs := #[.int .i64 0, .int .i64 0]) (t := 25) ?hr ?_; (case hd => rfl); (case hg => rfl); (case hr => first | (go_simp; done) | (go_simp; rfl)); intro gb210 hg w65 hbox hb; have n0_ := Aside0.mk (blk_below (g := gb188) (o := .cells #[.int .u8 a3_0, .int .u8 a3_1] 22 (0, 0)) (by (with_reducible repeat (first | refine blk_drewN ?_ _ | refine blk_drew ?_ | refine blk_alloc ?_ _)); exact BK188.out) hb); have n1_ := Aside0.mk (blk_below (g := gb193) (o := .cells #[.int .i64 t189, .int .i64 t190] 25 (0, 0)) (by (with_reducible repeat (first | refine blk_drewN ?_ _ | refine blk_drew ?_ | refine blk_alloc ?_ _)); exact BK193.out) hb); have n2_ := Aside0.mk (blk_below (g := gb194) (o := .cells #[.int .i64 t191, .int .i64 t192] 25 (0, 0)) (by (with_reducible repeat (first | refine blk_drewN ?_ _ | refine blk_drew ?_ | refine blk_alloc ?_ _)); exact BK194.out) hb); have n3_ := Aside0.mk (below_step (by repeat (first | (with_reducible first | exact HB.out | apply below_alloc | apply pw_below_drewN | apply below_drew1 | refine below_set ?_ GE188.out | refine below_set ?_ GE193.out | refine below_set ?_ GE194.out) | exact HB.out)) hb); have n4_ := Aside0.mk (hbox); have n5_ := Aside0.mk ((by rw [hg]; exact (below_size (by repeat (first | (with_reducible first | exact HB.out | apply below_alloc | apply pw_below_drewN | apply below_drew1 | refine below_set ?_ GE188.out | refine below_set ?_ GE193.out | refine below_set ?_ GE194.out) | exact HB.out))) : w.heap.size ≤ gb210)); have n6_ := Aside0.mk ((by rw [hg]; exact (below_size (by repeat (first | (with_reducible first | exact HB.out | apply below_alloc | apply pw_below_drewN | apply below_drew1 | refine below_set ?_ GE188.out | refine below_set ?_ GE193.out | refine below_set ?_ GE194.out) | exact HB.out))) : w.heap.size ≤ gb210)); have n7_ := Aside0.mk ((by rw [hg]; exact Nat.ne_of_lt (blk_lt (g := gb188) (o := .cells #[.int .u8 a3_0, .int .u8 a3_1] 22 (0, 0)) (by (with_reducible repeat (first | refine blk_drewN ?_ _ | refine blk_drew ?_ | refine blk_alloc ?_ _)); exact BK188.out)) : gb188 ≠ gb210)); have n8_ := Aside0.mk ((by rw [hg]; exact Nat.ne_of_gt (blk_lt (g := gb188) (o := .cells #[.int .u8 a3_0, .int .u8 a3_1] 22 (0, 0)) (by (with_reducible repeat (first | refine blk_drewN ?_ _ | refine blk_drew ?_ | refine blk_alloc ?_ _)); exact BK188.out)) : gb210 ≠ gb188)); have n9_ := Aside0.mk ((by rw [hg]; exact Nat.ne_of_lt (blk_lt (g := gb193) (o := .cells #[.int .i64 t189, .int .i64 t190] 25 (0, 0)) (by (with_reducible repeat (first | refine blk_drewN ?_ _ | refine blk_drew ?_ | refine blk_alloc ?_ _)); exact BK193.out)) : gb193 ≠ gb210)); have n10_ := Aside0.mk ((by rw [hg]; exact Nat.ne_of_gt (blk_lt (g := gb193) (o := .cells #[.int .i64 t189, .int .i64 t190] 25 (0, 0)) (by (with_reducible repeat (first | refine blk_drewN ?_ _ | refine blk_drew ?_ | refine blk_alloc ?_ _)); exact BK193.out)) : gb210 ≠ gb193)); have n11_ := Aside0.mk ((by rw [hg]; exact Nat.ne_of_lt (blk_lt (g := gb194) (o := .cells #[.int .i64 t191, .int .i64 t192] 25 (0, 0)) (by (with_reducible repeat (first | refine blk_drewN ?_ _ | refine blk_drew ?_ | refine blk_alloc ?_ _)); exact BK194.out)) : gb194 ≠ gb210)); have n12_ := Aside0.mk ((by rw [hg]; exact Nat.ne_of_gt (blk_lt (g := gb194) (o := .cells #[.int .i64 t191, .int .i64 t192] 25 (0, 0)) (by (with_reducible repeat (first | refine blk_drewN ?_ _ | refine blk_drew ?_ | refine blk_alloc ?_ _)); exact BK194.out)) : gb210 ≠ gb194)); clear BK188; clear BK193; clear BK194; clear HB; have BK188 := n0_; have BK193 := n1_; have BK194 := n2_; have HB := n3_; have BK210 := n4_; have GW210 := n5_; have GE210 := n6_; have NB188_210 := n7_; have NB210_188 := n8_; have NB193_210 := n9_; have NB210_193 := n10_; have NB194_210 := n11_; have NB210_194 := n12_; clear n0_ n1_ n2_ n3_ n4_ n5_ n6_ n7_ n8_ n9_ n10_ n11_ n12_; clear hb hbox hg; have hnb66 := NB210_188.out; have hnc66 := NB188_210.out; have hnb67 := NB210_193.out; have hnc67 := NB193_210.out; have hnb68 := NB210_194.out; have hnc68 := NB194_210.out; have hcz69_0 : w65.cell? ⟨gb210, 0, none⟩ = some (.int .i64 0) := (blk_cell BK210.out 0).trans rfl; have hcz69_1 : w65.cell? ⟨gb210, 1, none⟩ = some (.int .i64 0) := (blk_cell BK210.out 1).trans rfl; have hfz69_0 := blk_frozen BK210.out 0; have hfz69_1 := blk_frozen BK210.out 1; have hcz70_0 : w65.cell? ⟨gb193, 0, none⟩ = some (.int .i64 t189) := (blk_cell BK193.out 0).trans rfl; have hcz70_1 : w65.cell? ⟨gb193, 1, none⟩ = some (.int .i64 t190) := (blk_cell BK193.out 1).trans rfl; have hfz70_0 := blk_frozen BK193.out 0; have hfz70_1 := blk_frozen BK193.out 1) | ((with_reducible refine gate_callee (f := 14) rfl ?_); refine goesL_ (some 73) rfl rfl Tryd.func14 (by kernel_rfl) rfl #[.agg #[.int .i64 t189, .int .i64 t190], .int .i64 t204] rfl (by (try simp only [List.map_toArray, List.map_cons, List.map_nil]); first | done | rfl | (simp only [List.length_drop, List.length_take]; rfl)) ?_; (with_reducible refine (congruence_Has.calls kj8 t189 t190 t204 true _ A46.out).mono ?_); rintro e w71 ⟨rfl, hb⟩; refine ⟨_, rfl, ?_⟩; have n0_ := Aside0.mk (blk_below (g := gb188) (o := .cells #[.int .u8 a3_0, .int .u8 a3_1] 22 (0, 0)) (by (with_reducible repeat (first | refine blk_drewN ?_ _ | refine blk_drew ?_ | refine blk_alloc ?_ _)); refine blk_far ?_ NB188_210.out _; (with_reducible repeat (first | refine blk_drewN ?_ _ | refine blk_drew ?_ | refine blk_alloc ?_ _)); refine blk_far ?_ NB188_210.out _; (with_reducible repeat (first | refine blk_drewN ?_ _ | refine blk_drew ?_ | refine blk_alloc ?_ _)); exact BK188.out) hb); have n1_ := Aside0.mk (blk_below (g := gb193) (o := .cells #[.int .i64 t189, .int .i64 t190] 25 (0, 0)) (by (with_reducible repeat (first | refine blk_drewN ?_ _ | refine blk_drew ?_ | refine blk_alloc ?_ _)); refine blk_far ?_ NB193_210.out _; (with_reducible repeat (first | refine blk_drewN ?_ _ | refine blk_drew ?_ | refine blk_alloc ?_ _)); refine blk_far ?_ NB193_210.out _; (with_reducible repeat (first | refine blk_drewN ?_ _ | refine blk_drew ?_ | refine blk_alloc ?_ _)); exact BK193.out) hb); have n2_ := Aside0.mk (blk_below (g := gb194) (o := .cells #[.int .i64 t191, .int .i64 t192] 25 (0, 0)) (by (with_reducible repeat (first | refine blk_drewN ?_ _ | refine blk_drew ?_ | refine blk_alloc ?_ _)); refine blk_far ?_ NB194_210.out _; (with_reducible repeat (first | refine blk_drewN ?_ _ | refine blk_drew ?_ | refine blk_alloc ?_ _)); refine blk_far ?_ NB194_210.out _; (with_reducible repeat (first | refine blk_drewN ?_ _ | refine blk_drew ?_ | refine blk_alloc ?_ _)); exact BK194.out) hb); have n3_ := Aside0.mk (blk_below (g := gb210) (o := .cells #[.int .i64 t208, .int .i64 t209] 25 (0, 0)) (by (with_reducible repeat (first | refine blk_drewN ?_ _ | refine blk_drew ?_ | refine blk_alloc ?_ _)); refine blk_put (cs := #[.int .i64 t208, .int .i64 0]) ?_ 1 _ rfl; (with_reducible repeat (first | refine blk_drewN ?_ _ | refine blk_drew ?_ | refine blk_alloc ?_ _)); refine blk_put (cs := #[.int .i64 0, .int .i64 0]) ?_ 0 _ rfl; (with_reducible repeat (first | refine blk_drewN ?_ _ | refine blk_drew ?_ | refine blk_alloc ?_ _)); exact BK210.out) hb); have n4_ := Aside0.mk (below_step (by repeat (first | (with_reducible first | exact HB.out | apply below_alloc | apply pw_below_drewN | apply below_drew1 | refine below_set ?_ GE188.out | refine below_set ?_ GE193.out | refine below_set ?_ GE194.out | refine below_set ?_ GE210.out) | exact HB.out)) hb); clear BK188; clear BK193; clear BK194; clear BK210; clear HB; have BK188 := n0_; have BK193 := n1_; have BK194 := n2_; have BK210 := n3_; have HB := n4_; clear n0_ n1_ n2_ n3_ n4_; (try clear hb); (try clear hb2); (try clear hk); (try clear hi); have hcz72_0 : w71.cell? ⟨gb194, 0, none⟩ = some (.int .i64 t191) := (blk_cell BK194.out 0).trans rfl; have hcz72_1 : w71.cell? ⟨gb194, 1, none⟩ = some (.int .i64 t192) := (blk_cell BK194.out 1).trans rfl; have hfz72_0 := blk_frozen BK194.out 0; have hfz72_1 := blk_frozen BK194.out 1) | (go_at_call 14; (with_reducible refine (congruence_Has.calls kj8 t191 t192 t205 true _ A48.out).mono ?_); rintro e w73 ⟨rfl, hb⟩; have n0_ := Aside0.mk (blk_below (g := gb188) (o := .cells #[.int .u8 a3_0, .int .u8 a3_1] 22 (0, 0)) (by (with_reducible repeat (first | refine blk_drewN ?_ _ | refine blk_drew ?_ | refine blk_alloc ?_ _)); exact BK188.out) hb); have n1_ := Aside0.mk (blk_below (g := gb193) (o := .cells #[.int .i64 t189, .int .i64 t190] 25 (0, 0)) (by (with_reducible repeat (first | refine blk_drewN ?_ _ | refine blk_drew ?_ | refine blk_alloc ?_ _)); exact BK193.out) hb); have n2_ := Aside0.mk (blk_below (g := gb194) (o := .cells #[.int .i64 t191, .int .i64 t192] 25 (0, 0)) (by (with_reducible repeat (first | refine blk_drewN ?_ _ | refine blk_drew ?_ | refine blk_alloc ?_ _)); exact BK194.out) hb); have n3_ := Aside0.mk (blk_below (g := gb210) (o := .cells #[.int .i64 t208, .int .i64 t209] 25 (0, 0)) (by (with_reducible repeat (first | refine blk_drewN ?_ _ | refine blk_drew ?_ | refine blk_alloc ?_ _)); exact BK210.out) hb); have n4_ := Aside0.mk (below_step (by repeat (first | (with_reducible first | exact HB.out | apply below_alloc | apply pw_below_drewN | apply below_drew1 | refine below_set ?_ GE188.out | refine below_set ?_ GE193.out | refine below_set ?_ GE194.out | refine below_set ?_ GE210.out) | exact HB.out)) hb); clear BK188; clear BK193; clear BK194; clear BK210; clear HB; have BK188 := n0_; have BK193 := n1_; have BK194 := n2_; have BK210 := n3_; have HB := n4_; clear n0_ n1_ n2_ n3_ n4_; (try clear hb); (try clear hb2); (try clear hk); (try clear hi); have hcz74_0 : w73.cell? ⟨gb210, 0, none⟩ = some (.int .i64 t208) := (blk_cell BK210.out 0).trans rfl; have hcz74_1 : w73.cell? ⟨gb210, 1, none⟩ = some (.int .i64 t209) := (blk_cell BK210.out 1).trans rfl; have hfz74_0 := blk_frozen BK210.out 0; have hfz74_1 := blk_frozen BK210.out 1) | (go_at_call 14; (with_reducible refine (congruence_Has.calls kj8 t208 t209 t206 true _ A50.out).mono ?_); rintro e w75 ⟨rfl, hb⟩; have n0_ := Aside0.mk (blk_below (g := gb188) (o := .cells #[.int .u8 a3_0, .int .u8 a3_1] 22 (0, 0)) (by (with_reducible repeat (first | refine blk_drewN ?_ _ | refine blk_drew ?_ | refine blk_alloc ?_ _)); exact BK188.out) hb); have n1_ := Aside0.mk (blk_below (g := gb193) (o := .cells #[.int .i64 t189, .int .i64 t190] 25 (0, 0)) (by (with_reducible repeat (first | refine blk_drewN ?_ _ | refine blk_drew ?_ | refine blk_alloc ?_ _)); exact BK193.out) hb); have n2_ := Aside0.mk (blk_below (g := gb194) (o := .cells #[.int .i64 t191, .int .i64 t192] 25 (0, 0)) (by (with_reducible repeat (first | refine blk_drewN ?_ _ | refine blk_drew ?_ | refine blk_alloc ?_ _)); exact BK194.out) hb); have n3_ := Aside0.mk (blk_below (g := gb210) (o := .cells #[.int .i64 t208, .int .i64 t209] 25 (0, 0)) (by (with_reducible repeat (first | refine blk_drewN ?_ _ | refine blk_drew ?_ | refine blk_alloc ?_ _)); exact BK210.out) hb); have n4_ := Aside0.mk (below_step (by repeat (first | (with_reducible first | exact HB.out | apply below_alloc | apply pw_below_drewN | apply below_drew1 | refine below_set ?_ GE188.out | refine below_set ?_ GE193.out | refine below_set ?_ GE194.out | refine below_set ?_ GE210.out) | exact HB.out)) hb); clear BK188; clear BK193; clear BK194; clear BK210; clear HB; have BK188 := n0_; have BK193 := n1_; have BK194 := n2_; have BK210 := n3_; have HB := n4_; clear n0_ n1_ n2_ n3_ n4_; (try clear hb); (try clear hb2); (try clear hk); (try clear hi); have hcz76_0 : w75.cell? ⟨gb210, 0, none⟩ = some (.int .i64 t208) := (blk_cell BK210.out 0).trans rfl; have hcz76_1 : w75.cell? ⟨gb210, 1, none⟩ = some (.int .i64 t209) := (blk_cell BK210.out 1).trans rfl; have hfz76_0 := blk_frozen BK210.out 0; have hfz76_1 := blk_frozen BK210.out 1) | (go_at_call 15; (with_reducible refine (congruence_Valid.calls t208 t209 true _ A52.out).mono ?_); rintro e w77 ⟨rfl, hb⟩; have n0_ := Aside0.mk (blk_below (g := gb188) (o := .cells #[.int .u8 a3_0, .int .u8 a3_1] 22 (0, 0)) (by (with_reducible repeat (first | refine blk_drewN ?_ _ | refine blk_drew ?_ | refine blk_alloc ?_ _)); exact BK188.out) hb); have n1_ := Aside0.mk (blk_below (g := gb193) (o := .cells #[.int .i64 t189, .int .i64 t190] 25 (0, 0)) (by (with_reducible repeat (first | refine blk_drewN ?_ _ | refine blk_drew ?_ | refine blk_alloc ?_ _)); exact BK193.out) hb); have n2_ := Aside0.mk (blk_below (g := gb194) (o := .cells #[.int .i64 t191, .int .i64 t192] 25 (0, 0)) (by (with_reducible repeat (first | refine blk_drewN ?_ _ | refine blk_drew ?_ | refine blk_alloc ?_ _)); exact BK194.out) hb); have n3_ := Aside0.mk (blk_below (g := gb210) (o := .cells #[.int .i64 t208, .int .i64 t209] 25 (0, 0)) (by (with_reducible repeat (first | refine blk_drewN ?_ _ | refine blk_drew ?_ | refine blk_alloc ?_ _)); exact BK210.out) hb); have n4_ := Aside0.mk (below_step (by repeat (first | (with_reducible first | exact HB.out | apply below_alloc | apply pw_below_drewN | apply below_drew1 | refine below_set ?_ GE188.out | refine below_set ?_ GE193.out | refine below_set ?_ GE194.out | refine below_set ?_ GE210.out) | exact HB.out)) hb); clear BK188; clear BK193; clear BK194; clear BK210; clear HB; have BK188 := n0_; have BK193 := n1_; have BK194 := n2_; have BK210 := n3_; have HB := n4_; clear n0_ n1_ n2_ n3_ n4_; (try clear hb); (try clear hb2); (try clear hk); (try clear hi)) | (go_at_call 11; (with_reducible refine (timeboundlaw08_awake.calls kj8  t215 _ A54.out (Go.Proofs.YtaphfmbloappkaaDoor.TabOK.below hT.out (by repeat (first | (with_reducible first | exact HB.out | apply below_alloc | apply pw_below_drewN | apply below_drew1 | refine below_set ?_ GE188.out | refine below_set ?_ GE193.out | refine below_set ?_ GE194.out | refine below_set ?_ GE210.out) | exact HB.out)))).mono ?_); rintro e w78 ⟨rfl, hb⟩; have n0_ := Aside0.mk (blk_below (g := gb188) (o := .cells #[.int .u8 a3_0, .int .u8 a3_1] 22 (0, 0)) (by (with_reducible repeat (first | refine blk_drewN ?_ _ | refine blk_drew ?_ | refine blk_alloc ?_ _)); exact BK188.out) hb); have n1_ := Aside0.mk (blk_below (g := gb193) (o := .cells #[.int .i64 t189, .int .i64 t190] 25 (0, 0)) (by (with_reducible repeat (first | refine blk_drewN ?_ _ | refine blk_drew ?_ | refine blk_alloc ?_ _)); exact BK193.out) hb); have n2_ := Aside0.mk (blk_below (g := gb194) (o := .cells #[.int .i64 t191, .int .i64 t192] 25 (0, 0)) (by (with_reducible repeat (first | refine blk_drewN ?_ _ | refine blk_drew ?_ | refine blk_alloc ?_ _)); exact BK194.out) hb); have n3_ := Aside0.mk (blk_below (g := gb210) (o := .cells #[.int .i64 t208, .int .i64 t209] 25 (0, 0)) (by (with_reducible repeat (first | refine blk_drewN ?_ _ | refine blk_drew ?_ | refine blk_alloc ?_ _)); exact BK210.out) hb); have n4_ := Aside0.mk (below_step (by repeat (first | (with_reducible first | exact HB.out | apply below_alloc | apply pw_below_drewN | apply below_drew1 | refine below_set ?_ GE188.out | refine below_set ?_ GE193.out | refine below_set ?_ GE194.out | refine below_set ?_ GE210.out) | exact HB.out)) hb); clear BK188; clear BK193; clear BK194; clear BK210; clear HB; have BK188 := n0_; have BK193 := n1_; have BK194 := n2_; have BK210 := n3_; have HB := n4_; clear n0_ n1_ n2_ n3_ n4_; (try clear hb); (try clear hb2); (try clear hk); (try clear hi)))
                go_ret
                exact ⟨by first | rfl | (simp [errW_none, errW_some] <;> rfl) | (simp [*, errW_none, errW_some] <;> rfl), by repeat (first | (with_reducible first | exact HB.out | apply below_alloc | apply pw_below_drewN | apply below_drew1 | refine below_set ?_ GE188.out | refine below_set ?_ GE193.out | refine below_set ?_ GE194.out | refine below_set ?_ GE210.out) | exact HB.out)⟩
              · replace c53 := Bool.eq_false_iff.mpr c53
                subst c53
                have H1 : (none) = some r := by rw [if_neg (show ¬ (false = true) by decide)] at H; exact H
                clear H
                have H := H1
                clear H1
                exact absurd H (by simp)
            · replace c51 := Bool.eq_false_iff.mpr c51
              subst c51
              have H1 : (none) = some r := by rw [if_neg (show ¬ (false = true) by decide)] at H; exact H
              clear H
              have H := H1
              clear H1
              exact absurd H (by simp)
          · replace c49 := Bool.eq_false_iff.mpr c49
            subst c49
            have H1 : (none) = some r := by rw [if_neg (show ¬ (false = true) by decide)] at H; exact H
            clear H
            have H := H1
            clear H1
            exact absurd H (by simp)
        · replace c47 := Bool.eq_false_iff.mpr c47
          subst c47
          have H1 : (none) = some r := by rw [if_neg (show ¬ (false = true) by decide)] at H; exact H
          clear H
          have H := H1
          clear H1
          exact absurd H (by simp)

end Go.Proofs.YtaphfmbloappkaaDoorG.PAll
