-- The walk of IntervalTight, printed by programs for this claim.
import Derived.Test.YtdooadomkifbbaaPTightx0
import Derived.Test.YtdooadomkifbbaaPTightx1
import Derived.Test.YtdooadomkifbbaaSeq
namespace Go.Proofs.YtdooadomkifbbaaG.PTight
open Go.Proofs.Ytdooadomkifbbaa (WL l_start l_done l_off l_run)
open Go.RowKit Go.Proofs.YtdooadomkifbbaaW.PrintWords Go.Proofs.YtdooadomkifbbaaW.PrintLast Go.Proofs.YtdooadomkifbbaaW.PrintMore
attribute [local go_sem] max2_int min2_int max_two min_two max_three min_three max_four min_four   -- for this text's walks alone
set_option linter.unusedVariables false
set_option linter.unusedSimpArgs false

attribute [local go_sem high] eqA23
attribute [local go_sem] yl_undef
/-! ### timeboundlaw07_IntervalTight: function 6 -/
mutual
def timeboundlaw07_IntervalTight.j0 : Nat → Int → Int → Int → Bool → Int → Int → Int → Int → Option (Bool)
  | 0, _, _, _, _, _, _, _, _ => none
  | k + 1, x0, x6, x7, x43, x107000, x107001, x108000, x108001 => if x43 = true then ((timeboundlaw07_awake.f).bind fun t112 => (some t112)) else ((interval_Do.f 1 x107000 x107001 x108000 x108001).bind fun bt113 => ((interval_Do.f 2 x107000 x107001 x108000 x108001).bind fun bt115 => (if (wrap64 (x107000 + x108000)) ≥ (-2147483648) then (if (wrap64 (x107001 + x108001)) < 2147483648 then (if bt113.1 = (wrap64 (x107000 + x108000)) then (if bt113.2 = (wrap64 (x107001 + x108001)) then (if (wrap64 (x107000 - x108001)) ≥ (-2147483648) then (if (wrap64 (x107001 - x108000)) < 2147483648 then (if bt115.1 = (wrap64 (x107000 - x108001)) then (timeboundlaw07_IntervalTight.j1 k x0 x6 x7 (bt115.2 != (wrap64 (x107001 - x108000))) x107000 x107001 x108000 x108001) else (none)) else (timeboundlaw07_IntervalTight.j1 k x0 x6 x7 false x107000 x107001 x108000 x108001)) else (timeboundlaw07_IntervalTight.j1 k x0 x6 x7 false x107000 x107001 x108000 x108001)) else (none)) else (none)) else (if (wrap64 (x107000 - x108001)) ≥ (-2147483648) then (if (wrap64 (x107001 - x108000)) < 2147483648 then (if bt115.1 = (wrap64 (x107000 - x108001)) then (timeboundlaw07_IntervalTight.j1 k x0 x6 x7 (bt115.2 != (wrap64 (x107001 - x108000))) x107000 x107001 x108000 x108001) else (none)) else (timeboundlaw07_IntervalTight.j1 k x0 x6 x7 false x107000 x107001 x108000 x108001)) else (timeboundlaw07_IntervalTight.j1 k x0 x6 x7 false x107000 x107001 x108000 x108001))) else (if (wrap64 (x107000 - x108001)) ≥ (-2147483648) then (if (wrap64 (x107001 - x108000)) < 2147483648 then (if bt115.1 = (wrap64 (x107000 - x108001)) then (timeboundlaw07_IntervalTight.j1 k x0 x6 x7 (bt115.2 != (wrap64 (x107001 - x108000))) x107000 x107001 x108000 x108001) else (none)) else (timeboundlaw07_IntervalTight.j1 k x0 x6 x7 false x107000 x107001 x108000 x108001)) else (timeboundlaw07_IntervalTight.j1 k x0 x6 x7 false x107000 x107001 x108000 x108001)))))
def timeboundlaw07_IntervalTight.j1 : Nat → Int → Int → Int → Bool → Int → Int → Int → Int → Option (Bool)
  | 0, _, _, _, _, _, _, _, _ => none
  | k + 1, x0, x6, x7, x120, x107000, x107001, x108000, x108001 => if x120 = true then (none) else ((timeboundlaw07_inside.f x107000 x107001 x6).bind fun t119 => ((timeboundlaw07_inside.f x108000 x108001 x7).bind fun t120 => ((timeboundlaw07_inside.f x107000 x107001 x7).bind fun t121 => ((timeboundlaw07_inside.f x108000 x108001 x6).bind fun t123 => ((interval_Do.f (wrap64 (1 + (Int.tmod (wrap64 (x0)) 14))) t119 (mx t119 t121) t120 (mx t120 t123)).bind fun bt125 => ((interval_Do.f (wrap64 (1 + (Int.tmod (wrap64 (x0)) 14))) x107000 x107001 x108000 x108001).bind fun bt127 => ((interval_Leq.f bt125.1 bt125.2 bt127.1 bt127.2).bind fun t129 => (if t129 = true then ((timeboundlaw07_awake.f).bind fun t130 => (some t130)) else (none)))))))))
end
def timeboundlaw07_IntervalTight.f (k : Nat) (a0 : Int) (a1 : Int) (a2 : Int) (a3 : Int) (a4 : Int) (a5_0 : Int) (a5_1 : Int) (a6 : Int) (a7 : Int) : Option (Bool) := (timeboundlaw07_of.f a1 a2 a5_0).bind fun bt102 => ((timeboundlaw07_of.f a3 a4 a5_1).bind fun bt104 => ((interval_None.f).bind fun bt108 => (if (bt102.1 == bt108.1 && (bt102.2 == bt108.2)) = true then (timeboundlaw07_IntervalTight.j0 k a0 a6 a7 true bt102.1 bt102.2 bt104.1 bt104.2) else ((interval_None.f).bind fun bt110 => (timeboundlaw07_IntervalTight.j0 k a0 a6 a7 (bt104.1 == bt110.1 && (bt104.2 == bt110.2)) bt102.1 bt102.2 bt104.1 bt104.2)))))
theorem timeboundlaw07_IntervalTight.mono_l : ∀ k, (∀ y0 y1 y2 y3 y4 y5 y6 y7, LeO (timeboundlaw07_IntervalTight.j0 k y0 y1 y2 y3 y4 y5 y6 y7) (timeboundlaw07_IntervalTight.j0 (k + 1) y0 y1 y2 y3 y4 y5 y6 y7)) ∧ (∀ y0 y1 y2 y3 y4 y5 y6 y7, LeO (timeboundlaw07_IntervalTight.j1 k y0 y1 y2 y3 y4 y5 y6 y7) (timeboundlaw07_IntervalTight.j1 (k + 1) y0 y1 y2 y3 y4 y5 y6 y7))
  | 0 => ⟨fun _ _ _ _ _ _ _ _ r h => by simp [timeboundlaw07_IntervalTight.j0] at h, fun _ _ _ _ _ _ _ _ r h => by simp [timeboundlaw07_IntervalTight.j1] at h⟩
  | k + 1 => by
    obtain ⟨ih0, ih1⟩ := timeboundlaw07_IntervalTight.mono_l k
    refine ⟨?_, ?_⟩
    · intro y0 y1 y2 y3 y4 y5 y6 y7
      unfold timeboundlaw07_IntervalTight.j0
      repeat' first
      | (with_reducible exact ih0 _ _ _ _ _ _ _ _)
      | (with_reducible exact ih1 _ _ _ _ _ _ _ _)
      | (with_reducible exact LeO.refl _)
      | (with_reducible exact LeO.none _)
      | (with_reducible refine LeO.ite ?_ ?_)
      | (with_reducible refine LeO.bind ?_ (fun _ => ?_))
      | exact ih0 _ _ _ _ _ _ _ _
      | exact ih1 _ _ _ _ _ _ _ _
      | exact LeO.none _
      | refine LeO.ite ?_ ?_
      | refine LeO.bind ?_ (fun _ => ?_)
    · intro y0 y1 y2 y3 y4 y5 y6 y7
      unfold timeboundlaw07_IntervalTight.j1
      repeat' first
      | (with_reducible exact ih0 _ _ _ _ _ _ _ _)
      | (with_reducible exact ih1 _ _ _ _ _ _ _ _)
      | (with_reducible exact LeO.refl _)
      | (with_reducible exact LeO.none _)
      | (with_reducible refine LeO.ite ?_ ?_)
      | (with_reducible refine LeO.bind ?_ (fun _ => ?_))
      | exact ih0 _ _ _ _ _ _ _ _
      | exact ih1 _ _ _ _ _ _ _ _
      | exact LeO.none _
      | refine LeO.ite ?_ ?_
      | refine LeO.bind ?_ (fun _ => ?_)
theorem timeboundlaw07_IntervalTight.mono : ∀ a0 a1 a2 a3 a4 a5 a6 a7 a8 k, LeO (timeboundlaw07_IntervalTight.f k a0 a1 a2 a3 a4 a5 a6 a7 a8) (timeboundlaw07_IntervalTight.f (k + 1) a0 a1 a2 a3 a4 a5 a6 a7 a8) := by
  intro a0 a1 a2 a3 a4 a5 a6 a7 a8 k
  obtain ⟨ih0, ih1⟩ := timeboundlaw07_IntervalTight.mono_l k
  unfold timeboundlaw07_IntervalTight.f
  repeat' first
      | (with_reducible exact ih0 _ _ _ _ _ _ _ _)
      | (with_reducible exact ih1 _ _ _ _ _ _ _ _)
      | (with_reducible exact LeO.refl _)
      | (with_reducible exact LeO.none _)
      | (with_reducible refine LeO.ite ?_ ?_)
      | (with_reducible refine LeO.bind ?_ (fun _ => ?_))
      | exact ih0 _ _ _ _ _ _ _ _
      | exact ih1 _ _ _ _ _ _ _ _
      | exact LeO.none _
      | refine LeO.ite ?_ ?_
      | refine LeO.bind ?_ (fun _ => ?_)
def timeboundlaw07_IntervalTight.T1 : Bool × List (List Nat × List Nat) := (true, [([], []), ([], []), ([], []), ([2], [2]), ([0, 1, 3], [0, 1, 3]), ([], []), ([], []), ([], []), ([7], [7]), ([5, 6, 8, 4], [5, 6, 8]), ([], []), ([], []), ([10, 4, 9, 0, 1, 2, 3, 4, 10, 11], [4, 10]), ([11, 9, 12, 0, 1, 2, 3, 4, 5, 6, 7, 8, 9, 10, 11, 12], [9, 11])])
def timeboundlaw07_IntervalTight.B1 : List Nat := [0, 0, 0, 4, 15, 0, 0, 0, 128, 511, 0, 0, 4095, 8191]
theorem timeboundlaw07_IntervalTight.tab1 : rtab .any (opsOf Try.f6 1) = timeboundlaw07_IntervalTight.T1 := by kernel_rfl
theorem timeboundlaw07_IntervalTight.bits1 : waitsOk timeboundlaw07_IntervalTight.T1.2 timeboundlaw07_IntervalTight.B1 = true := by kernel_rfl
def timeboundlaw07_IntervalTight.T2 : Bool × List (List Nat × List Nat) := (true, [([], []), ([], []), ([0, 1], [0, 1]), ([2, 1], [2]), ([3], [3]), ([3, 3], [3]), ([4, 5, 3], [3, 4, 5]), ([3, 6], [3, 6])])
def timeboundlaw07_IntervalTight.B2 : List Nat := [0, 0, 3, 7, 15, 15, 63, 127]
theorem timeboundlaw07_IntervalTight.tab2 : rtab .any (opsOf Try.f6 2) = timeboundlaw07_IntervalTight.T2 := by kernel_rfl
theorem timeboundlaw07_IntervalTight.bits2 : waitsOk timeboundlaw07_IntervalTight.T2.2 timeboundlaw07_IntervalTight.B2 = true := by kernel_rfl
def timeboundlaw07_IntervalTight.T4 : Bool × List (List Nat × List Nat) := (true, [([], []), ([], []), ([0, 1], [0, 1]), ([], []), ([], []), ([3, 4, 2], [3, 4]), ([], []), ([], []), ([6, 2, 5, 0, 1, 2, 6, 7], [2, 6]), ([7, 5, 8, 0, 1, 2, 3, 4, 5, 6, 7, 8], [5, 7])])
def timeboundlaw07_IntervalTight.B4 : List Nat := [0, 0, 3, 0, 0, 31, 0, 0, 255, 511]
theorem timeboundlaw07_IntervalTight.tab4 : rtab .any (opsOf Try.f6 4) = timeboundlaw07_IntervalTight.T4 := by kernel_rfl
theorem timeboundlaw07_IntervalTight.bits4 : waitsOk timeboundlaw07_IntervalTight.T4.2 timeboundlaw07_IntervalTight.B4 = true := by kernel_rfl
def timeboundlaw07_IntervalTight.T8 : Bool × List (List Nat × List Nat) := (true, [([], []), ([], []), ([0, 1], [0, 1]), ([], []), ([], []), ([3, 4, 2], [3, 4]), ([2, 5, 0, 1, 2], [2]), ([5, 6, 0, 1, 2, 3, 4, 5, 6], [5])])
def timeboundlaw07_IntervalTight.B8 : List Nat := [0, 0, 3, 0, 0, 31, 63, 127]
theorem timeboundlaw07_IntervalTight.tab8 : rtab .any (opsOf Try.f6 8) = timeboundlaw07_IntervalTight.T8 := by kernel_rfl
theorem timeboundlaw07_IntervalTight.bits8 : waitsOk timeboundlaw07_IntervalTight.T8.2 timeboundlaw07_IntervalTight.B8 = true := by kernel_rfl
def timeboundlaw07_IntervalTight.T11 : Bool × List (List Nat × List Nat) := (true, [([], []), ([], []), ([], []), ([0, 1, 2], [0, 1, 2]), ([], []), ([], []), ([], []), ([4, 5, 6, 3], [4, 5, 6]), ([3, 7, 7], [3, 7]), ([8, 8], [8]), ([9, 9], [9]), ([9, 10], [9, 10]), ([11, 10, 0, 1, 2, 3, 4, 5, 6, 7, 8, 9, 10, 11], [11])])
def timeboundlaw07_IntervalTight.B11 : List Nat := [0, 0, 0, 7, 0, 0, 0, 127, 255, 511, 1023, 2047, 4095]
theorem timeboundlaw07_IntervalTight.tab11 : rtab .any (opsOf Try.f6 11) = timeboundlaw07_IntervalTight.T11 := by kernel_rfl
theorem timeboundlaw07_IntervalTight.bits11 : waitsOk timeboundlaw07_IntervalTight.T11.2 timeboundlaw07_IntervalTight.B11 = true := by kernel_rfl
set_option maxHeartbeats 80000000 in
set_option maxRecDepth 100000 in
theorem timeboundlaw07_IntervalTight.calls (k : Nat) (a0 : Int) (a1 : Int) (a2 : Int) (a3 : Int) (a4 : Int) (a5_0 : Int) (a5_1 : Int) (a6 : Int) (a7 : Int) (r : Bool) (w : World) (h : timeboundlaw07_IntervalTight.f k a0 a1 a2 a3 a4 a5_0 a5_1 a6 a7 = some r) :
    Calls Try.prog 6 #[.int .u8 a0, .int .i32 a1, .int .i32 a2, .int .i32 a3, .int .i32 a4, .agg #[.int .u8 a5_0, .int .u8 a5_1], .int .u32 a6, .int .u32 a7] w fun e w' => e = .returned (.bool r) ∧ Below w.heap.size w w' := by
  have hu27 := Try.underlying27
  have hu23 := Try.underlying23
  have HB := Aside0.mk (Below.refl w.heap.size w)
  have H : ((timeboundlaw07_of.f a1 a2 a5_0).bind fun bt102 => ((timeboundlaw07_of.f a3 a4 a5_1).bind fun bt104 => ((interval_None.f).bind fun bt108 => (if (bt102.1 == bt108.1 && (bt102.2 == bt108.2)) = true then (timeboundlaw07_IntervalTight.j0 k a0 a6 a7 true bt102.1 bt102.2 bt104.1 bt104.2) else ((interval_None.f).bind fun bt110 => (timeboundlaw07_IntervalTight.j0 k a0 a6 a7 (bt104.1 == bt110.1 && (bt104.2 == bt110.2)) bt102.1 bt102.2 bt104.1 bt104.2)))))) = some r := h
  clear h
  replace H := Option.bind_eq_some_iff.mp H
  obtain ⟨⟨t102, t103⟩, A90, H⟩ := H
  replace H : ((timeboundlaw07_of.f a3 a4 a5_1).bind fun bt104 => ((interval_None.f).bind fun bt108 => (if (t102 == bt108.1 && (t103 == bt108.2)) = true then (timeboundlaw07_IntervalTight.j0 k a0 a6 a7 true t102 t103 bt104.1 bt104.2) else ((interval_None.f).bind fun bt110 => (timeboundlaw07_IntervalTight.j0 k a0 a6 a7 (bt104.1 == bt110.1 && (bt104.2 == bt110.2)) t102 t103 bt104.1 bt104.2))))) = some r := H
  have A9 := Aside0.mk A90
  clear A90
  replace H := Option.bind_eq_some_iff.mp H
  obtain ⟨⟨t104, t105⟩, A100, H⟩ := H
  replace H : ((interval_None.f).bind fun bt108 => (if (t102 == bt108.1 && (t103 == bt108.2)) = true then (timeboundlaw07_IntervalTight.j0 k a0 a6 a7 true t102 t103 t104 t105) else ((interval_None.f).bind fun bt110 => (timeboundlaw07_IntervalTight.j0 k a0 a6 a7 (t104 == bt110.1 && (t105 == bt110.2)) t102 t103 t104 t105)))) = some r := H
  have A10 := Aside0.mk A100
  clear A100
  have HC11 := Aside0.mk H
  clear H
  go_enter Try.func6, Try.ntmps6
  try go_wp2_with (first | ((with_reducible refine gate_dst (N := 13) rfl ?_); refine box_event ?hg (N := 13) ?hd (cs := #[.int .u8 a5_0, .int .u8 a5_1]) (t := 27) ?hr ?_; (case hd => rfl); (case hg => rfl); (case hr => first | (go_simp; done) | (go_simp; rfl)); intro gb101 hg w12 hbox hb; have n0_ := Aside0.mk (below_step (by repeat (first | (with_reducible first | exact HB.out | apply below_alloc | apply pw_below_drewN | apply below_drew1) | exact HB.out)) hb); have n1_ := Aside0.mk (hbox); have n2_ := Aside0.mk ((by rw [hg]; exact (below_size (by repeat (first | (with_reducible first | exact HB.out | apply below_alloc | apply pw_below_drewN | apply below_drew1) | exact HB.out))) : w.heap.size ≤ gb101)); have n3_ := Aside0.mk ((by rw [hg]; exact (below_size (by repeat (first | (with_reducible first | exact HB.out | apply below_alloc | apply pw_below_drewN | apply below_drew1) | exact HB.out))) : w.heap.size ≤ gb101)); clear HB; have HB := n0_; have BK101 := n1_; have GW101 := n2_; have GE101 := n3_; clear n0_ n1_ n2_ n3_; clear hb hbox hg))
  have n0_ := Aside0.mk (blk_drew BK101.out)
  have n1_ := Aside0.mk (below_drew1 HB.out)
  clear BK101
  clear HB
  have BK101 := n0_
  have HB := n1_
  clear n0_ n1_
  refine start_ (n := 14) (S := fun w' => True) (ds := []) #[false, false, false, false, false, false, false, false, false, false, false, false, false, false] (by kernel_rfl) rfl rfl trivial (fun hHeld => ?_); refine with_tabW timeboundlaw07_IntervalTight.tab1 timeboundlaw07_IntervalTight.bits1 (fun HT_ HW_ => ?_)
  generalize w12.drew = w13 at BK101 HB hHeld ⊢
  refine pure_ (i := 0) (N := some 26) (v := ?_) (a' := ?_) #[true, false, false, false, false, false, false, false, false, false, false, false, false, false] rfl rfl (any_of HT_.out (by kernel_rfl)) (fun _ _ _ h => h) (Or.inl ⟨by rfl, ?_⟩) ?_ ?_
  rotate_left
  · intro w'
    go_simp
    with_reducible rfl
  rotate_left
  · simp only [Act.put, List.setIfInBounds_toArray, List.set_cons_zero, List.set_cons_succ, i64_w, i32_w]
    rfl
  refine pure_ (i := 1) (N := some 27) (v := ?_) (a' := ?_) #[true, true, false, false, false, false, false, false, false, false, false, false, false, false] rfl rfl (any_of HT_.out (by kernel_rfl)) (fun _ _ _ h => h) (Or.inl ⟨by rfl, ?_⟩) ?_ ?_
  rotate_left
  · intro w'
    go_simp
    with_reducible rfl
  rotate_left
  · simp only [Act.put, List.setIfInBounds_toArray, List.set_cons_zero, List.set_cons_succ, i64_w, i32_w]
    rfl
  refine pure_ (i := 5) (N := some 31) (v := ?_) (a' := ?_) #[true, true, false, false, false, true, false, false, false, false, false, false, false, false] rfl rfl (any_of HT_.out (by kernel_rfl)) (fun _ _ _ h => h) (Or.inl ⟨by rfl, ?_⟩) ?_ ?_
  rotate_left
  · intro w'
    go_simp
    with_reducible rfl
  rotate_left
  · simp only [Act.put, List.setIfInBounds_toArray, List.set_cons_zero, List.set_cons_succ, i64_w, i32_w]
    rfl
  refine pure_ (i := 6) (N := some 32) (v := ?_) (a' := ?_) #[true, true, false, false, false, true, true, false, false, false, false, false, false, false] rfl rfl (any_of HT_.out (by kernel_rfl)) (fun _ _ _ h => h) (Or.inl ⟨by rfl, ?_⟩) ?_ ?_
  rotate_left
  · intro w'
    go_simp
    with_reducible rfl
  rotate_left
  · simp only [Act.put, List.setIfInBounds_toArray, List.set_cons_zero, List.set_cons_succ, i64_w, i32_w]
    rfl
  refine inv_at [2, 3, 4, 7, 8, 9, 10, 11, 12, 13] (fun a0_ b a w' => ∃ (gb106 : Nat) (gb107 : Nat) (m10_ : Value) (m11_ : Value), a = putSel a0_ b [(2, 28, .pointer (some ⟨gb101, 0, none⟩)), (3, 29, .int .u8 a5_0), (4, 30, .agg #[.int .i64 t102, .int .i64 t103]), (7, 33, .pointer (some ⟨gb101, 1, none⟩)), (8, 34, .int .u8 a5_1), (9, 35, .agg #[.int .i64 t104, .int .i64 t105]), (10, 17, m10_), (11, 18, m11_)] ∧ (w'.heap[gb101]? = some (.cells #[.int .u8 a5_0, .int .u8 a5_1] 27 (0, 0))) ∧ (Below w.heap.size w w') ∧ (b 10 = true → b 11 = true → gb107 ≠ gb106) ∧ (b 10 = true → b 11 = true → gb106 ≠ gb107) ∧ (b 10 = true → b 12 = false → w'.heap[gb106]? = some (.cells #[.int .i64 0, .int .i64 0] 23 (0, 0))) ∧ (b 10 = true → w.heap.size ≤ gb106) ∧ (b 10 = true → w.heap.size ≤ gb106) ∧ (b 10 = true → gb101 ≠ gb106) ∧ (b 10 = true → gb106 ≠ gb101) ∧ (b 11 = true → b 13 = false → w'.heap[gb107]? = some (.cells #[.int .i64 0, .int .i64 0] 23 (0, 0))) ∧ (b 11 = true → w.heap.size ≤ gb107) ∧ (b 11 = true → w.heap.size ≤ gb107) ∧ (b 11 = true → gb101 ≠ gb107) ∧ (b 11 = true → gb107 ≠ gb101) ∧ (b 12 = true → w'.heap[gb106]? = some (.cells #[.int .i64 t102, .int .i64 t103] 23 (0, 0))) ∧ (b 13 = true → w'.heap[gb107]? = some (.cells #[.int .i64 t104, .int .i64 t105] 23 (0, 0))) ∧ (b 10 = true → (m10_ : Value) = .pointer (some ⟨gb106, 0, none⟩)) ∧ (b 11 = true → (m11_ : Value) = .pointer (some ⟨gb107, 0, none⟩))) HT_.out HW_.out (by kernel_rfl) (by kernel_rfl) ?_ ?_ ?_
  · exact ⟨0, 0, .bool false, .bool false, by simp only [putSel, Bool.false_eq_true, if_false], BK101.out, HB.out, fun h_ => absurd h_ (by decide), fun h_ => absurd h_ (by decide), fun h_ => absurd h_ (by decide), fun h_ => absurd h_ (by decide), fun h_ => absurd h_ (by decide), fun h_ => absurd h_ (by decide), fun h_ => absurd h_ (by decide), fun h_ => absurd h_ (by decide), fun h_ => absurd h_ (by decide), fun h_ => absurd h_ (by decide), fun h_ => absurd h_ (by decide), fun h_ => absurd h_ (by decide), fun h_ => absurd h_ (by decide), fun h_ => absurd h_ (by decide), fun h_ => absurd h_ (by decide), fun h_ => absurd h_ (by decide)⟩
  · skip
    clear BK101 HB
    refine steps_cons ?_ ?_
    · rintro b a w' ⟨gb106, gb107, m10_, m11_, ha, Q_BK101, Q_HB, Q_NB107_106, Q_NB106_107, Q_BK106, Q_GW106, Q_GE106, Q_NB101_106, Q_NB106_101, Q_BK107, Q_GW107, Q_GE107, Q_NB101_107, Q_NB107_101, Q_BK106_e12, Q_BK107_e13, Q_X10_, Q_X11_⟩ hb_ hon hoff
      refine ⟨_, rfl, fun K hK => ?_⟩
      have e13 : a.tmps[13]? = some (.pointer (some ⟨gb101, 0, none⟩)) := by rw [ha]; exact (putSel_off rfl).trans rfl
      replace ha := Aside0.mk ha
      have BK101 := Aside0.mk Q_BK101
      have HB := Aside0.mk Q_HB
      refine value_ (w1 := w') (v := .pointer (some ⟨gb101, 0, none⟩)) (by rfl) rfl ?_ ?_
      · go_simp
        (try simp only [i64_w])
        try rfl
      refine hK.out _ _ ⟨gb106, gb107, m10_, m11_, (by rw [ha.out]; exact putSel_upk 0 hb_ rfl rfl rfl), Q_BK101, Q_HB, Q_NB107_106, Q_NB106_107, Q_BK106, Q_GW106, Q_GE106, Q_NB101_106, Q_NB106_101, Q_BK107, Q_GW107, Q_GE107, Q_NB101_107, Q_NB107_101, fun h0_ => absurd ((hoff 12 (by kernel_rfl)).symm.trans h0_) (by decide), fun h0_ => absurd ((hoff 13 (by kernel_rfl)).symm.trans h0_) (by decide), Q_X10_, Q_X11_⟩
    refine steps_cons ?_ ?_
    · rintro b a w' ⟨gb106, gb107, m10_, m11_, ha, Q_BK101, Q_HB, Q_NB107_106, Q_NB106_107, Q_BK106, Q_GW106, Q_GE106, Q_NB101_106, Q_NB106_101, Q_BK107, Q_GW107, Q_GE107, Q_NB101_107, Q_NB107_101, Q_BK106_e12, Q_BK107_e13, Q_X10_, Q_X11_⟩ hb_ hon hoff
      refine ⟨_, rfl, fun K hK => ?_⟩
      have e28 : a.tmps[28]? = some (.pointer (some ⟨gb101, 0, none⟩)) := by rw [ha]; exact putSel_on (e := (2, 28, .pointer (some ⟨gb101, 0, none⟩))) 0 rfl rfl (hon 2 (by kernel_rfl)) rfl
      replace ha := Aside0.mk ha
      have BK101 := Aside0.mk Q_BK101
      have HB := Aside0.mk Q_HB
      have hc0_ : w'.cell? ⟨gb101, 0, none⟩ = some (.int .u8 a5_0) := (blk_cell BK101.out 0).trans rfl
      have hc1_ : w'.cell? ⟨gb101, 1, none⟩ = some (.int .u8 a5_1) := (blk_cell BK101.out 1).trans rfl
      refine value_ (w1 := w') (v := .int .u8 a5_0) (by rfl) rfl ?_ ?_
      · go_simp
        (try simp only [i64_w])
        try rfl
      refine hK.out _ _ ⟨gb106, gb107, m10_, m11_, (by rw [ha.out]; exact putSel_upk 1 hb_ rfl rfl rfl), Q_BK101, Q_HB, Q_NB107_106, Q_NB106_107, Q_BK106, Q_GW106, Q_GE106, Q_NB101_106, Q_NB106_101, Q_BK107, Q_GW107, Q_GE107, Q_NB101_107, Q_NB107_101, fun h0_ => absurd ((hoff 12 (by kernel_rfl)).symm.trans h0_) (by decide), fun h0_ => absurd ((hoff 13 (by kernel_rfl)).symm.trans h0_) (by decide), Q_X10_, Q_X11_⟩
    refine steps_cons ?_ ?_
    · rintro b a w' ⟨gb106, gb107, m10_, m11_, ha, Q_BK101, Q_HB, Q_NB107_106, Q_NB106_107, Q_BK106, Q_GW106, Q_GE106, Q_NB101_106, Q_NB106_101, Q_BK107, Q_GW107, Q_GE107, Q_NB101_107, Q_NB107_101, Q_BK106_e12, Q_BK107_e13, Q_X10_, Q_X11_⟩ hb_ hon hoff
      refine ⟨_, rfl, fun K hK => ?_⟩
      have e26 : a.tmps[26]? = some (.int .i32 a1) := by rw [ha]; exact (putSel_off rfl).trans rfl
      have e27 : a.tmps[27]? = some (.int .i32 a2) := by rw [ha]; exact (putSel_off rfl).trans rfl
      have e29 : a.tmps[29]? = some (.int .u8 a5_0) := by rw [ha]; exact putSel_on (e := (3, 29, .int .u8 a5_0)) 1 rfl rfl (hon 3 (by kernel_rfl)) rfl
      replace ha := Aside0.mk ha
      have BK101 := Aside0.mk Q_BK101
      have HB := Aside0.mk Q_HB
      refine goes_ Try.func15 (by kernel_rfl) rfl #[.int .i32 a1, .int .i32 a2, .int .u8 a5_0] (by rfl) rfl rfl (by first | (simp only [List.map_toArray, List.map_cons, List.map_nil, Act.eval, Array.getD_eq_getD_getElem?, Option.getD_some, e26, e27, e29]; done) | (simp only [List.map_toArray, List.map_cons, List.map_nil, Act.eval, Array.getD_eq_getD_getElem?, Option.getD_some, e26, e27, e29]; rfl)) ?_
      with_reducible refine (timeboundlaw07_of.calls a1 a2 a5_0 t102 t103 _ A9.out).mono ?_
      rintro e w14 ⟨rfl, hb⟩
      refine ⟨_, rfl, ?_⟩
      have n0_ := Aside0.mk (blk_below (g := gb101) (o := .cells #[.int .u8 a5_0, .int .u8 a5_1] 27 (0, 0)) (by (with_reducible repeat (first | refine blk_drewN ?_ _ | refine blk_drew ?_ | refine blk_alloc ?_ _)); exact BK101.out) hb)
      have n1_ := Aside0.mk (below_step (by repeat (first | (with_reducible first | exact HB.out | apply below_alloc | apply pw_below_drewN | apply below_drew1 | refine below_set ?_ GE101.out) | exact HB.out)) hb)
      have z_BK106 := fun (h0_ : b 10 = true) (h1_ : b 12 = false) => (show w14.heap[gb106]? = some (.cells #[.int .i64 0, .int .i64 0] 23 (0, 0)) from by first | exact (blk_below (g := gb106) (o := .cells #[.int .i64 0, .int .i64 0] 23 (0, 0)) (by (with_reducible repeat (first | refine blk_drewN ?_ _ | refine blk_drew ?_ | refine blk_alloc ?_ _)); exact (Q_BK106 h0_ h1_)) hb))
      have z_BK107 := fun (h0_ : b 11 = true) (h1_ : b 13 = false) => (show w14.heap[gb107]? = some (.cells #[.int .i64 0, .int .i64 0] 23 (0, 0)) from by first | exact (blk_below (g := gb107) (o := .cells #[.int .i64 0, .int .i64 0] 23 (0, 0)) (by (with_reducible repeat (first | refine blk_drewN ?_ _ | refine blk_drew ?_ | refine blk_alloc ?_ _)); exact (Q_BK107 h0_ h1_)) hb))
      clear BK101
      clear HB
      have BK101 := n0_
      have HB := n1_
      clear n0_ n1_
      (try clear hb)
      (try clear hb2)
      (try clear hk)
      (try clear hi)
      refine hK.out _ _ ⟨gb106, gb107, m10_, m11_, (by rw [ha.out]; exact putSel_upk 2 hb_ rfl rfl rfl), (by (with_reducible repeat (first | refine blk_drewN ?_ _ | refine blk_drew ?_ | refine blk_alloc ?_ _)); exact BK101.out), (by repeat (first | (with_reducible first | exact HB.out | apply below_alloc | apply pw_below_drewN | apply below_drew1 | refine below_set ?_ GE101.out) | exact HB.out)), Q_NB107_106, Q_NB106_107, z_BK106, Q_GW106, Q_GE106, Q_NB101_106, Q_NB106_101, z_BK107, Q_GW107, Q_GE107, Q_NB101_107, Q_NB107_101, fun h0_ => absurd ((hoff 12 (by kernel_rfl)).symm.trans h0_) (by decide), fun h0_ => absurd ((hoff 13 (by kernel_rfl)).symm.trans h0_) (by decide), Q_X10_, Q_X11_⟩
    refine steps_cons ?_ ?_
    · rintro b a w' ⟨gb106, gb107, m10_, m11_, ha, Q_BK101, Q_HB, Q_NB107_106, Q_NB106_107, Q_BK106, Q_GW106, Q_GE106, Q_NB101_106, Q_NB106_101, Q_BK107, Q_GW107, Q_GE107, Q_NB101_107, Q_NB107_101, Q_BK106_e12, Q_BK107_e13, Q_X10_, Q_X11_⟩ hb_ hon hoff
      refine ⟨_, rfl, fun K hK => ?_⟩
      have e13 : a.tmps[13]? = some (.pointer (some ⟨gb101, 0, none⟩)) := by rw [ha]; exact (putSel_off rfl).trans rfl
      replace ha := Aside0.mk ha
      have BK101 := Aside0.mk Q_BK101
      have HB := Aside0.mk Q_HB
      refine value_ (w1 := w') (v := .pointer (some ⟨gb101, 1, none⟩)) (by rfl) rfl ?_ ?_
      · go_simp
        (try simp only [i64_w])
        try rfl
      refine hK.out _ _ ⟨gb106, gb107, m10_, m11_, (by rw [ha.out]; exact putSel_upk 3 hb_ rfl rfl rfl), Q_BK101, Q_HB, Q_NB107_106, Q_NB106_107, Q_BK106, Q_GW106, Q_GE106, Q_NB101_106, Q_NB106_101, Q_BK107, Q_GW107, Q_GE107, Q_NB101_107, Q_NB107_101, fun h0_ => absurd ((hoff 12 (by kernel_rfl)).symm.trans h0_) (by decide), fun h0_ => absurd ((hoff 13 (by kernel_rfl)).symm.trans h0_) (by decide), Q_X10_, Q_X11_⟩
    refine steps_cons ?_ ?_
    · rintro b a w' ⟨gb106, gb107, m10_, m11_, ha, Q_BK101, Q_HB, Q_NB107_106, Q_NB106_107, Q_BK106, Q_GW106, Q_GE106, Q_NB101_106, Q_NB106_101, Q_BK107, Q_GW107, Q_GE107, Q_NB101_107, Q_NB107_101, Q_BK106_e12, Q_BK107_e13, Q_X10_, Q_X11_⟩ hb_ hon hoff
      refine ⟨_, rfl, fun K hK => ?_⟩
      have e33 : a.tmps[33]? = some (.pointer (some ⟨gb101, 1, none⟩)) := by rw [ha]; exact putSel_on (e := (7, 33, .pointer (some ⟨gb101, 1, none⟩))) 3 rfl rfl (hon 7 (by kernel_rfl)) rfl
      replace ha := Aside0.mk ha
      have BK101 := Aside0.mk Q_BK101
      have HB := Aside0.mk Q_HB
      have hc0_ : w'.cell? ⟨gb101, 0, none⟩ = some (.int .u8 a5_0) := (blk_cell BK101.out 0).trans rfl
      have hc1_ : w'.cell? ⟨gb101, 1, none⟩ = some (.int .u8 a5_1) := (blk_cell BK101.out 1).trans rfl
      refine value_ (w1 := w') (v := .int .u8 a5_1) (by rfl) rfl ?_ ?_
      · go_simp
        (try simp only [i64_w])
        try rfl
      refine hK.out _ _ ⟨gb106, gb107, m10_, m11_, (by rw [ha.out]; exact putSel_upk 4 hb_ rfl rfl rfl), Q_BK101, Q_HB, Q_NB107_106, Q_NB106_107, Q_BK106, Q_GW106, Q_GE106, Q_NB101_106, Q_NB106_101, Q_BK107, Q_GW107, Q_GE107, Q_NB101_107, Q_NB107_101, fun h0_ => absurd ((hoff 12 (by kernel_rfl)).symm.trans h0_) (by decide), fun h0_ => absurd ((hoff 13 (by kernel_rfl)).symm.trans h0_) (by decide), Q_X10_, Q_X11_⟩
    refine steps_cons ?_ ?_
    · rintro b a w' ⟨gb106, gb107, m10_, m11_, ha, Q_BK101, Q_HB, Q_NB107_106, Q_NB106_107, Q_BK106, Q_GW106, Q_GE106, Q_NB101_106, Q_NB106_101, Q_BK107, Q_GW107, Q_GE107, Q_NB101_107, Q_NB107_101, Q_BK106_e12, Q_BK107_e13, Q_X10_, Q_X11_⟩ hb_ hon hoff
      refine ⟨_, rfl, fun K hK => ?_⟩
      have e31 : a.tmps[31]? = some (.int .i32 a3) := by rw [ha]; exact (putSel_off rfl).trans rfl
      have e32 : a.tmps[32]? = some (.int .i32 a4) := by rw [ha]; exact (putSel_off rfl).trans rfl
      have e34 : a.tmps[34]? = some (.int .u8 a5_1) := by rw [ha]; exact putSel_on (e := (8, 34, .int .u8 a5_1)) 4 rfl rfl (hon 8 (by kernel_rfl)) rfl
      replace ha := Aside0.mk ha
      have BK101 := Aside0.mk Q_BK101
      have HB := Aside0.mk Q_HB
      refine goes_ Try.func15 (by kernel_rfl) rfl #[.int .i32 a3, .int .i32 a4, .int .u8 a5_1] (by rfl) rfl rfl (by first | (simp only [List.map_toArray, List.map_cons, List.map_nil, Act.eval, Array.getD_eq_getD_getElem?, Option.getD_some, e31, e32, e34]; done) | (simp only [List.map_toArray, List.map_cons, List.map_nil, Act.eval, Array.getD_eq_getD_getElem?, Option.getD_some, e31, e32, e34]; rfl)) ?_
      with_reducible refine (timeboundlaw07_of.calls a3 a4 a5_1 t104 t105 _ A10.out).mono ?_
      rintro e w16 ⟨rfl, hb⟩
      refine ⟨_, rfl, ?_⟩
      have n0_ := Aside0.mk (blk_below (g := gb101) (o := .cells #[.int .u8 a5_0, .int .u8 a5_1] 27 (0, 0)) (by (with_reducible repeat (first | refine blk_drewN ?_ _ | refine blk_drew ?_ | refine blk_alloc ?_ _)); exact BK101.out) hb)
      have n1_ := Aside0.mk (below_step (by repeat (first | (with_reducible first | exact HB.out | apply below_alloc | apply pw_below_drewN | apply below_drew1 | refine below_set ?_ GE101.out) | exact HB.out)) hb)
      have z_BK106 := fun (h0_ : b 10 = true) (h1_ : b 12 = false) => (show w16.heap[gb106]? = some (.cells #[.int .i64 0, .int .i64 0] 23 (0, 0)) from by first | exact (blk_below (g := gb106) (o := .cells #[.int .i64 0, .int .i64 0] 23 (0, 0)) (by (with_reducible repeat (first | refine blk_drewN ?_ _ | refine blk_drew ?_ | refine blk_alloc ?_ _)); exact (Q_BK106 h0_ h1_)) hb))
      have z_BK107 := fun (h0_ : b 11 = true) (h1_ : b 13 = false) => (show w16.heap[gb107]? = some (.cells #[.int .i64 0, .int .i64 0] 23 (0, 0)) from by first | exact (blk_below (g := gb107) (o := .cells #[.int .i64 0, .int .i64 0] 23 (0, 0)) (by (with_reducible repeat (first | refine blk_drewN ?_ _ | refine blk_drew ?_ | refine blk_alloc ?_ _)); exact (Q_BK107 h0_ h1_)) hb))
      clear BK101
      clear HB
      have BK101 := n0_
      have HB := n1_
      clear n0_ n1_
      (try clear hb)
      (try clear hb2)
      (try clear hk)
      (try clear hi)
      refine hK.out _ _ ⟨gb106, gb107, m10_, m11_, (by rw [ha.out]; exact putSel_upk 5 hb_ rfl rfl rfl), (by (with_reducible repeat (first | refine blk_drewN ?_ _ | refine blk_drew ?_ | refine blk_alloc ?_ _)); exact BK101.out), (by repeat (first | (with_reducible first | exact HB.out | apply below_alloc | apply pw_below_drewN | apply below_drew1 | refine below_set ?_ GE101.out) | exact HB.out)), Q_NB107_106, Q_NB106_107, z_BK106, Q_GW106, Q_GE106, Q_NB101_106, Q_NB106_101, z_BK107, Q_GW107, Q_GE107, Q_NB101_107, Q_NB107_101, fun h0_ => absurd ((hoff 12 (by kernel_rfl)).symm.trans h0_) (by decide), fun h0_ => absurd ((hoff 13 (by kernel_rfl)).symm.trans h0_) (by decide), Q_X10_, Q_X11_⟩
    refine steps_cons ?_ ?_
    · rintro b a w' ⟨gb106, gb107, m10_, m11_, ha, Q_BK101, Q_HB, Q_NB107_106, Q_NB106_107, Q_BK106, Q_GW106, Q_GE106, Q_NB101_106, Q_NB106_101, Q_BK107, Q_GW107, Q_GE107, Q_NB101_107, Q_NB107_101, Q_BK106_e12, Q_BK107_e13, Q_X10_, Q_X11_⟩ hb_ hon hoff
      refine ⟨_, rfl, fun K hK => ?_⟩
      replace ha := Aside0.mk ha
      have BK101 := Aside0.mk Q_BK101
      have HB := Aside0.mk Q_HB
      refine box_step ?hg (N := 17) ?hd (cs := #[.int .i64 0, .int .i64 0]) (t := 23) ?hr ?_; (case hd => rfl); (case hg => rfl); (case hr => first | (go_simp; done) | (go_simp; rfl))
      intro gb106 hg w14 hbox hb
      have n0_ := Aside0.mk (blk_below (g := gb101) (o := .cells #[.int .u8 a5_0, .int .u8 a5_1] 27 (0, 0)) (by (with_reducible repeat (first | refine blk_drewN ?_ _ | refine blk_drew ?_ | refine blk_alloc ?_ _)); exact BK101.out) hb)
      have n1_ := Aside0.mk (below_step (by repeat (first | (with_reducible first | exact HB.out | apply below_alloc | apply pw_below_drewN | apply below_drew1 | refine below_set ?_ GE101.out) | exact HB.out)) hb)
      have n2_ := Aside0.mk (hbox)
      have n3_ := Aside0.mk ((by rw [hg]; exact (below_size (by repeat (first | (with_reducible first | exact HB.out | apply below_alloc | apply pw_below_drewN | apply below_drew1 | refine below_set ?_ GE101.out) | exact HB.out))) : w.heap.size ≤ gb106))
      have n4_ := Aside0.mk ((by rw [hg]; exact (below_size (by repeat (first | (with_reducible first | exact HB.out | apply below_alloc | apply pw_below_drewN | apply below_drew1 | refine below_set ?_ GE101.out) | exact HB.out))) : w.heap.size ≤ gb106))
      have n5_ := Aside0.mk ((by rw [hg]; exact Nat.ne_of_lt (blk_lt (g := gb101) (o := .cells #[.int .u8 a5_0, .int .u8 a5_1] 27 (0, 0)) (by (with_reducible repeat (first | refine blk_drewN ?_ _ | refine blk_drew ?_ | refine blk_alloc ?_ _)); exact BK101.out)) : gb101 ≠ gb106))
      have n6_ := Aside0.mk ((by rw [hg]; exact Nat.ne_of_gt (blk_lt (g := gb101) (o := .cells #[.int .u8 a5_0, .int .u8 a5_1] 27 (0, 0)) (by (with_reducible repeat (first | refine blk_drewN ?_ _ | refine blk_drew ?_ | refine blk_alloc ?_ _)); exact BK101.out)) : gb106 ≠ gb101))
      have z_NB107_106 := fun (h0_ : up b 10 10 = true) (h1_ : up b 10 11 = true) => (show gb107 ≠ gb106 from ((by rw [hg]; exact Nat.ne_of_lt (blk_lt (g := gb107) (o := .cells #[.int .i64 0, .int .i64 0] 23 (0, 0)) (by (with_reducible repeat (first | refine blk_drewN ?_ _ | refine blk_drew ?_ | refine blk_alloc ?_ _)); exact (Q_BK107 h1_ (hoff 13 (by kernel_rfl))))) : gb107 ≠ gb106)))
      have z_NB106_107 := fun (h0_ : up b 10 10 = true) (h1_ : up b 10 11 = true) => (show gb106 ≠ gb107 from ((by rw [hg]; exact Nat.ne_of_gt (blk_lt (g := gb107) (o := .cells #[.int .i64 0, .int .i64 0] 23 (0, 0)) (by (with_reducible repeat (first | refine blk_drewN ?_ _ | refine blk_drew ?_ | refine blk_alloc ?_ _)); exact (Q_BK107 h1_ (hoff 13 (by kernel_rfl))))) : gb106 ≠ gb107)))
      have z_BK107 := fun (h0_ : b 11 = true) (h1_ : b 13 = false) => (show w14.heap[gb107]? = some (.cells #[.int .i64 0, .int .i64 0] 23 (0, 0)) from by first | exact (blk_below (g := gb107) (o := .cells #[.int .i64 0, .int .i64 0] 23 (0, 0)) (by (with_reducible repeat (first | refine blk_drewN ?_ _ | refine blk_drew ?_ | refine blk_alloc ?_ _)); exact (Q_BK107 h0_ h1_)) hb))
      clear BK101
      clear HB
      have BK101 := n0_
      have HB := n1_
      have BK106 := n2_
      have GW106 := n3_
      have GE106 := n4_
      have NB101_106 := n5_
      have NB106_101 := n6_
      clear n0_ n1_ n2_ n3_ n4_ n5_ n6_
      clear hb hbox hg
      refine hK.out _ _ ⟨gb106, gb107, (.pointer (some ⟨gb106, 0, none⟩)), m11_, (by rw [ha.out]; exact putSel_upk 6 hb_ rfl rfl rfl), (by (with_reducible repeat (first | refine blk_drewN ?_ _ | refine blk_drew ?_ | refine blk_alloc ?_ _)); exact BK101.out), (by repeat (first | (with_reducible first | exact HB.out | apply below_alloc | apply pw_below_drewN | apply below_drew1 | refine below_set ?_ GE101.out | refine below_set ?_ GE106.out) | exact HB.out)), z_NB107_106, z_NB106_107, fun _ _ => (by (with_reducible repeat (first | refine blk_drewN ?_ _ | refine blk_drew ?_ | refine blk_alloc ?_ _)); exact BK106.out), fun _ => GW106.out, fun _ => GE106.out, fun _ => NB101_106.out, fun _ => NB106_101.out, z_BK107, Q_GW107, Q_GE107, Q_NB101_107, Q_NB107_101, fun h0_ => absurd ((hoff 12 (by kernel_rfl)).symm.trans h0_) (by decide), fun h0_ => absurd ((hoff 13 (by kernel_rfl)).symm.trans h0_) (by decide), fun _ => rfl, Q_X11_⟩
    refine steps_cons ?_ ?_
    · rintro b a w' ⟨gb106, gb107, m10_, m11_, ha, Q_BK101, Q_HB, Q_NB107_106, Q_NB106_107, Q_BK106, Q_GW106, Q_GE106, Q_NB101_106, Q_NB106_101, Q_BK107, Q_GW107, Q_GE107, Q_NB101_107, Q_NB107_101, Q_BK106_e12, Q_BK107_e13, Q_X10_, Q_X11_⟩ hb_ hon hoff
      refine ⟨_, rfl, fun K hK => ?_⟩
      replace ha := Aside0.mk ha
      have BK101 := Aside0.mk Q_BK101
      have HB := Aside0.mk Q_HB
      refine box_step ?hg (N := 18) ?hd (cs := #[.int .i64 0, .int .i64 0]) (t := 23) ?hr ?_; (case hd => rfl); (case hg => rfl); (case hr => first | (go_simp; done) | (go_simp; rfl))
      intro gb107 hg w14 hbox hb
      have n0_ := Aside0.mk (blk_below (g := gb101) (o := .cells #[.int .u8 a5_0, .int .u8 a5_1] 27 (0, 0)) (by (with_reducible repeat (first | refine blk_drewN ?_ _ | refine blk_drew ?_ | refine blk_alloc ?_ _)); exact BK101.out) hb)
      have n1_ := Aside0.mk (below_step (by repeat (first | (with_reducible first | exact HB.out | apply below_alloc | apply pw_below_drewN | apply below_drew1 | refine below_set ?_ GE101.out) | exact HB.out)) hb)
      have n2_ := Aside0.mk (hbox)
      have n3_ := Aside0.mk ((by rw [hg]; exact (below_size (by repeat (first | (with_reducible first | exact HB.out | apply below_alloc | apply pw_below_drewN | apply below_drew1 | refine below_set ?_ GE101.out) | exact HB.out))) : w.heap.size ≤ gb107))
      have n4_ := Aside0.mk ((by rw [hg]; exact (below_size (by repeat (first | (with_reducible first | exact HB.out | apply below_alloc | apply pw_below_drewN | apply below_drew1 | refine below_set ?_ GE101.out) | exact HB.out))) : w.heap.size ≤ gb107))
      have n5_ := Aside0.mk ((by rw [hg]; exact Nat.ne_of_lt (blk_lt (g := gb101) (o := .cells #[.int .u8 a5_0, .int .u8 a5_1] 27 (0, 0)) (by (with_reducible repeat (first | refine blk_drewN ?_ _ | refine blk_drew ?_ | refine blk_alloc ?_ _)); exact BK101.out)) : gb101 ≠ gb107))
      have n6_ := Aside0.mk ((by rw [hg]; exact Nat.ne_of_gt (blk_lt (g := gb101) (o := .cells #[.int .u8 a5_0, .int .u8 a5_1] 27 (0, 0)) (by (with_reducible repeat (first | refine blk_drewN ?_ _ | refine blk_drew ?_ | refine blk_alloc ?_ _)); exact BK101.out)) : gb107 ≠ gb101))
      have z_NB107_106 := fun (h0_ : up b 11 10 = true) (h1_ : up b 11 11 = true) => (show gb107 ≠ gb106 from ((by rw [hg]; exact Nat.ne_of_gt (blk_lt (g := gb106) (o := .cells #[.int .i64 0, .int .i64 0] 23 (0, 0)) (by (with_reducible repeat (first | refine blk_drewN ?_ _ | refine blk_drew ?_ | refine blk_alloc ?_ _)); exact (Q_BK106 h0_ (hoff 12 (by kernel_rfl))))) : gb107 ≠ gb106)))
      have z_NB106_107 := fun (h0_ : up b 11 10 = true) (h1_ : up b 11 11 = true) => (show gb106 ≠ gb107 from ((by rw [hg]; exact Nat.ne_of_lt (blk_lt (g := gb106) (o := .cells #[.int .i64 0, .int .i64 0] 23 (0, 0)) (by (with_reducible repeat (first | refine blk_drewN ?_ _ | refine blk_drew ?_ | refine blk_alloc ?_ _)); exact (Q_BK106 h0_ (hoff 12 (by kernel_rfl))))) : gb106 ≠ gb107)))
      have z_BK106 := fun (h0_ : b 10 = true) (h1_ : b 12 = false) => (show w14.heap[gb106]? = some (.cells #[.int .i64 0, .int .i64 0] 23 (0, 0)) from by first | exact (blk_below (g := gb106) (o := .cells #[.int .i64 0, .int .i64 0] 23 (0, 0)) (by (with_reducible repeat (first | refine blk_drewN ?_ _ | refine blk_drew ?_ | refine blk_alloc ?_ _)); exact (Q_BK106 h0_ h1_)) hb))
      clear BK101
      clear HB
      have BK101 := n0_
      have HB := n1_
      have BK107 := n2_
      have GW107 := n3_
      have GE107 := n4_
      have NB101_107 := n5_
      have NB107_101 := n6_
      clear n0_ n1_ n2_ n3_ n4_ n5_ n6_
      clear hb hbox hg
      refine hK.out _ _ ⟨gb106, gb107, m10_, (.pointer (some ⟨gb107, 0, none⟩)), (by rw [ha.out]; exact putSel_upk 7 hb_ rfl rfl rfl), (by (with_reducible repeat (first | refine blk_drewN ?_ _ | refine blk_drew ?_ | refine blk_alloc ?_ _)); exact BK101.out), (by repeat (first | (with_reducible first | exact HB.out | apply below_alloc | apply pw_below_drewN | apply below_drew1 | refine below_set ?_ GE101.out | refine below_set ?_ GE107.out) | exact HB.out)), z_NB107_106, z_NB106_107, z_BK106, Q_GW106, Q_GE106, Q_NB101_106, Q_NB106_101, fun _ _ => (by (with_reducible repeat (first | refine blk_drewN ?_ _ | refine blk_drew ?_ | refine blk_alloc ?_ _)); exact BK107.out), fun _ => GW107.out, fun _ => GE107.out, fun _ => NB101_107.out, fun _ => NB107_101.out, fun h0_ => absurd ((hoff 12 (by kernel_rfl)).symm.trans h0_) (by decide), fun h0_ => absurd ((hoff 13 (by kernel_rfl)).symm.trans h0_) (by decide), Q_X10_, fun _ => rfl⟩
    refine steps_cons ?_ ?_
    · rintro b a w' ⟨gb106, gb107, m10_, m11_, ha, Q_BK101, Q_HB, Q_NB107_106, Q_NB106_107, Q_BK106, Q_GW106, Q_GE106, Q_NB101_106, Q_NB106_101, Q_BK107, Q_GW107, Q_GE107, Q_NB101_107, Q_NB107_101, Q_BK106_e12, Q_BK107_e13, Q_X10_, Q_X11_⟩ hb_ hon hoff
      refine ⟨_, rfl, fun K hK => ?_⟩
      have e17 : a.tmps[17]? = some (m10_) := by rw [ha]; exact putSel_on (e := (10, 17, m10_)) 6 rfl rfl (hon 10 (by kernel_rfl)) rfl
      rw [Q_X10_ (hon 10 (by kernel_rfl))] at e17
      have e30 : a.tmps[30]? = some (.agg #[.int .i64 t102, .int .i64 t103]) := by rw [ha]; exact putSel_on (e := (4, 30, .agg #[.int .i64 t102, .int .i64 t103])) 2 rfl rfl (hon 4 (by kernel_rfl)) rfl
      replace ha := Aside0.mk ha
      have BK101 := Aside0.mk Q_BK101
      have HB := Aside0.mk Q_HB
      have NB107_106 := Aside0.mk (Q_NB107_106 (hon 10 (by kernel_rfl)) (hon 11 (by kernel_rfl)))
      have NB106_107 := Aside0.mk (Q_NB106_107 (hon 10 (by kernel_rfl)) (hon 11 (by kernel_rfl)))
      have BK106 := Aside0.mk (Q_BK106 (hon 10 (by kernel_rfl)) hb_)
      have GW106 := Aside0.mk (Q_GW106 (hon 10 (by kernel_rfl)))
      have GE106 := Aside0.mk (Q_GE106 (hon 10 (by kernel_rfl)))
      have NB101_106 := Aside0.mk (Q_NB101_106 (hon 10 (by kernel_rfl)))
      have NB106_101 := Aside0.mk (Q_NB106_101 (hon 10 (by kernel_rfl)))
      have BK107 := Aside0.mk (Q_BK107 (hon 11 (by kernel_rfl)) (hoff 13 (by kernel_rfl)))
      have GW107 := Aside0.mk (Q_GW107 (hon 11 (by kernel_rfl)))
      have GE107 := Aside0.mk (Q_GE107 (hon 11 (by kernel_rfl)))
      have NB101_107 := Aside0.mk (Q_NB101_107 (hon 11 (by kernel_rfl)))
      have NB107_101 := Aside0.mk (Q_NB107_101 (hon 11 (by kernel_rfl)))
      have hs19 : w'.cell? ⟨gb106, 0, none⟩ = some (.int .i64 0) := (blk_cell BK106.out 0).trans rfl
      have hfs19 := blk_frozen BK106.out 0
      have hns19_0 := NB101_106.out
      have hns19_2 := NB107_106.out
      have hms19_0 := NB106_101.out
      have hms19_2 := NB106_107.out
      have hs20 : w'.cell? ⟨gb106, 1, none⟩ = some (.int .i64 0) := (blk_cell BK106.out 1).trans rfl
      have hfs20 := blk_frozen BK106.out 1
      have hns20_0 := NB101_106.out
      have hns20_2 := NB107_106.out
      have hms20_0 := NB106_101.out
      have hms20_2 := NB106_107.out
      refine skip_ (w1 := ?_) (by rfl) rfl ?_ ?_
      rotate_left
      · go_simp
        rfl
      refine hK.out _ _ ⟨gb106, gb107, m10_, m11_, (by rw [ha.out]; exact putSel_none (v := undef) rfl), (by (with_reducible repeat (first | refine blk_drewN ?_ _ | refine blk_drew ?_ | refine blk_alloc ?_ _)); refine blk_far ?_ NB101_106.out _; (with_reducible repeat (first | refine blk_drewN ?_ _ | refine blk_drew ?_ | refine blk_alloc ?_ _)); refine blk_far ?_ NB101_106.out _; (with_reducible repeat (first | refine blk_drewN ?_ _ | refine blk_drew ?_ | refine blk_alloc ?_ _)); exact BK101.out), (by repeat (first | (with_reducible first | exact HB.out | apply below_alloc | apply pw_below_drewN | apply below_drew1 | refine below_set ?_ GE101.out | refine below_set ?_ GE106.out | refine below_set ?_ GE107.out) | exact HB.out)), fun _ _ => NB107_106.out, fun _ _ => NB106_107.out, fun _ h1_ => absurd ((up_self b 12).symm.trans h1_) (by decide), fun _ => GW106.out, fun _ => GE106.out, fun _ => NB101_106.out, fun _ => NB106_101.out, fun _ _ => (by (with_reducible repeat (first | refine blk_drewN ?_ _ | refine blk_drew ?_ | refine blk_alloc ?_ _)); refine blk_far ?_ NB107_106.out _; (with_reducible repeat (first | refine blk_drewN ?_ _ | refine blk_drew ?_ | refine blk_alloc ?_ _)); refine blk_far ?_ NB107_106.out _; (with_reducible repeat (first | refine blk_drewN ?_ _ | refine blk_drew ?_ | refine blk_alloc ?_ _)); exact BK107.out), fun _ => GW107.out, fun _ => GE107.out, fun _ => NB101_107.out, fun _ => NB107_101.out, fun _ => (by (with_reducible repeat (first | refine blk_drewN ?_ _ | refine blk_drew ?_ | refine blk_alloc ?_ _)); refine blk_put (cs := #[.int .i64 t102, .int .i64 0]) ?_ 1 _ rfl; (with_reducible repeat (first | refine blk_drewN ?_ _ | refine blk_drew ?_ | refine blk_alloc ?_ _)); refine blk_put (cs := #[.int .i64 0, .int .i64 0]) ?_ 0 _ rfl; (with_reducible repeat (first | refine blk_drewN ?_ _ | refine blk_drew ?_ | refine blk_alloc ?_ _)); exact BK106.out), fun h0_ => absurd ((hoff 13 (by kernel_rfl)).symm.trans h0_) (by decide), Q_X10_, Q_X11_⟩
    refine steps_cons ?_ ?_
    · rintro b a w' ⟨gb106, gb107, m10_, m11_, ha, Q_BK101, Q_HB, Q_NB107_106, Q_NB106_107, Q_BK106, Q_GW106, Q_GE106, Q_NB101_106, Q_NB106_101, Q_BK107, Q_GW107, Q_GE107, Q_NB101_107, Q_NB107_101, Q_BK106_e12, Q_BK107_e13, Q_X10_, Q_X11_⟩ hb_ hon hoff
      refine ⟨_, rfl, fun K hK => ?_⟩
      have e18 : a.tmps[18]? = some (m11_) := by rw [ha]; exact putSel_on (e := (11, 18, m11_)) 7 rfl rfl (hon 11 (by kernel_rfl)) rfl
      rw [Q_X11_ (hon 11 (by kernel_rfl))] at e18
      have e35 : a.tmps[35]? = some (.agg #[.int .i64 t104, .int .i64 t105]) := by rw [ha]; exact putSel_on (e := (9, 35, .agg #[.int .i64 t104, .int .i64 t105])) 5 rfl rfl (hon 9 (by kernel_rfl)) rfl
      replace ha := Aside0.mk ha
      have BK101 := Aside0.mk Q_BK101
      have HB := Aside0.mk Q_HB
      have NB107_106 := Aside0.mk (Q_NB107_106 (hon 10 (by kernel_rfl)) (hon 11 (by kernel_rfl)))
      have NB106_107 := Aside0.mk (Q_NB106_107 (hon 10 (by kernel_rfl)) (hon 11 (by kernel_rfl)))
      have GW106 := Aside0.mk (Q_GW106 (hon 10 (by kernel_rfl)))
      have GE106 := Aside0.mk (Q_GE106 (hon 10 (by kernel_rfl)))
      have NB101_106 := Aside0.mk (Q_NB101_106 (hon 10 (by kernel_rfl)))
      have NB106_101 := Aside0.mk (Q_NB106_101 (hon 10 (by kernel_rfl)))
      have BK107 := Aside0.mk (Q_BK107 (hon 11 (by kernel_rfl)) hb_)
      have GW107 := Aside0.mk (Q_GW107 (hon 11 (by kernel_rfl)))
      have GE107 := Aside0.mk (Q_GE107 (hon 11 (by kernel_rfl)))
      have NB101_107 := Aside0.mk (Q_NB101_107 (hon 11 (by kernel_rfl)))
      have NB107_101 := Aside0.mk (Q_NB107_101 (hon 11 (by kernel_rfl)))
      have BK106 := Aside0.mk (Q_BK106_e12 (hon 12 (by kernel_rfl)))
      have hs21 : w'.cell? ⟨gb107, 0, none⟩ = some (.int .i64 0) := (blk_cell BK107.out 0).trans rfl
      have hfs21 := blk_frozen BK107.out 0
      have hns21_0 := NB101_107.out
      have hns21_1 := NB106_107.out
      have hms21_0 := NB107_101.out
      have hms21_1 := NB107_106.out
      have hs22 : w'.cell? ⟨gb107, 1, none⟩ = some (.int .i64 0) := (blk_cell BK107.out 1).trans rfl
      have hfs22 := blk_frozen BK107.out 1
      have hns22_0 := NB101_107.out
      have hns22_1 := NB106_107.out
      have hms22_0 := NB107_101.out
      have hms22_1 := NB107_106.out
      refine skip_ (w1 := ?_) (by rfl) rfl ?_ ?_
      rotate_left
      · go_simp
        rfl
      refine hK.out _ _ ⟨gb106, gb107, m10_, m11_, (by rw [ha.out]; exact putSel_none (v := undef) rfl), (by (with_reducible repeat (first | refine blk_drewN ?_ _ | refine blk_drew ?_ | refine blk_alloc ?_ _)); refine blk_far ?_ NB101_107.out _; (with_reducible repeat (first | refine blk_drewN ?_ _ | refine blk_drew ?_ | refine blk_alloc ?_ _)); refine blk_far ?_ NB101_107.out _; (with_reducible repeat (first | refine blk_drewN ?_ _ | refine blk_drew ?_ | refine blk_alloc ?_ _)); exact BK101.out), (by repeat (first | (with_reducible first | exact HB.out | apply below_alloc | apply pw_below_drewN | apply below_drew1 | refine below_set ?_ GE101.out | refine below_set ?_ GE106.out | refine below_set ?_ GE107.out) | exact HB.out)), fun _ _ => NB107_106.out, fun _ _ => NB106_107.out, fun _ h1_ => absurd ((hon 12 (by kernel_rfl)).symm.trans h1_) (by decide), fun _ => GW106.out, fun _ => GE106.out, fun _ => NB101_106.out, fun _ => NB106_101.out, fun _ h1_ => absurd ((up_self b 13).symm.trans h1_) (by decide), fun _ => GW107.out, fun _ => GE107.out, fun _ => NB101_107.out, fun _ => NB107_101.out, fun _ => (by (with_reducible repeat (first | refine blk_drewN ?_ _ | refine blk_drew ?_ | refine blk_alloc ?_ _)); refine blk_far ?_ NB106_107.out _; (with_reducible repeat (first | refine blk_drewN ?_ _ | refine blk_drew ?_ | refine blk_alloc ?_ _)); refine blk_far ?_ NB106_107.out _; (with_reducible repeat (first | refine blk_drewN ?_ _ | refine blk_drew ?_ | refine blk_alloc ?_ _)); exact BK106.out), fun _ => (by (with_reducible repeat (first | refine blk_drewN ?_ _ | refine blk_drew ?_ | refine blk_alloc ?_ _)); refine blk_put (cs := #[.int .i64 t104, .int .i64 0]) ?_ 1 _ rfl; (with_reducible repeat (first | refine blk_drewN ?_ _ | refine blk_drew ?_ | refine blk_alloc ?_ _)); refine blk_put (cs := #[.int .i64 0, .int .i64 0]) ?_ 0 _ rfl; (with_reducible repeat (first | refine blk_drewN ?_ _ | refine blk_drew ?_ | refine blk_alloc ?_ _)); exact BK107.out), Q_X10_, Q_X11_⟩
    exact steps_nil
  rintro b a w22 hall ⟨gb106, gb107, m10_, m11_, ha, Q_BK101, Q_HB, Q_NB107_106, Q_NB106_107, Q_BK106, Q_GW106, Q_GE106, Q_NB101_106, Q_NB106_101, Q_BK107, Q_GW107, Q_GE107, Q_NB101_107, Q_NB107_101, Q_BK106_e12, Q_BK107_e13, Q_X10_, Q_X11_⟩
  clear BK101 HB
  have hb2_ := hall 2 (by kernel_rfl)
  have hb3_ := hall 3 (by kernel_rfl)
  have hb4_ := hall 4 (by kernel_rfl)
  have hb7_ := hall 7 (by kernel_rfl)
  have hb8_ := hall 8 (by kernel_rfl)
  have hb9_ := hall 9 (by kernel_rfl)
  have hb10_ := hall 10 (by kernel_rfl)
  have hb11_ := hall 11 (by kernel_rfl)
  have hb12_ := hall 12 (by kernel_rfl)
  have hb13_ := hall 13 (by kernel_rfl)
  subst ha
  obtain rfl := Q_X10_ hb10_
  obtain rfl := Q_X11_ hb11_
  simp only [putSel, hb2_, hb3_, hb4_, hb7_, hb8_, hb9_, hb10_, hb11_, hb12_, hb13_, if_true, Act.put, List.setIfInBounds_toArray, List.set_cons_zero, List.set_cons_succ]
  have BK101 := Aside0.mk Q_BK101
  clear Q_BK101
  have HB := Aside0.mk Q_HB
  clear Q_HB
  have NB107_106 := Aside0.mk (Q_NB107_106 hb10_ hb11_)
  clear Q_NB107_106
  have NB106_107 := Aside0.mk (Q_NB106_107 hb10_ hb11_)
  clear Q_NB106_107
  clear Q_BK106
  have GW106 := Aside0.mk (Q_GW106 hb10_)
  clear Q_GW106
  have GE106 := Aside0.mk (Q_GE106 hb10_)
  clear Q_GE106
  have NB101_106 := Aside0.mk (Q_NB101_106 hb10_)
  clear Q_NB101_106
  have NB106_101 := Aside0.mk (Q_NB106_101 hb10_)
  clear Q_NB106_101
  clear Q_BK107
  have GW107 := Aside0.mk (Q_GW107 hb11_)
  clear Q_GW107
  have GE107 := Aside0.mk (Q_GE107 hb11_)
  clear Q_GE107
  have NB101_107 := Aside0.mk (Q_NB101_107 hb11_)
  clear Q_NB101_107
  have NB107_101 := Aside0.mk (Q_NB107_101 hb11_)
  clear Q_NB107_101
  have BK106 := Aside0.mk (Q_BK106_e12 hb12_)
  clear Q_BK106_e12
  have BK107 := Aside0.mk (Q_BK107_e13 hb13_)
  clear Q_BK107_e13
  clear hall hb2_ hb3_ hb4_ hb7_ hb8_ hb9_ hb10_ hb11_ hb12_ hb13_
  go_upto_region 2 with (fail)
  go_cut [43] (fun v43 wc => ∃ (kq : Nat) (x43_10 : Bool), v43 = .bool x43_10 ∧ Aside0 (timeboundlaw07_IntervalTight.j0 kq a0 a6 a7 x43_10 t102 t103 t104 t105 = some r) ∧ Aside0 (kq ≤ k) ∧ Aside0 (wc.heap[gb101]? = some (.cells #[.int .u8 a5_0, .int .u8 a5_1] 27 (0, 0))) ∧ Aside0 (wc.heap[gb106]? = some (.cells #[.int .i64 t102, .int .i64 t103] 23 (0, 0))) ∧ Aside0 (wc.heap[gb107]? = some (.cells #[.int .i64 t104, .int .i64 t105] 23 (0, 0))) ∧ Aside0 (Below w.heap.size w wc))
  case first =>
    have H := HC11.out
    clear HC11
    replace H := Option.bind_eq_some_iff.mp H
    obtain ⟨⟨t108, t109⟩, A230, H⟩ := H
    replace H : (if (t102 == t108 && (t103 == t109)) = true then (timeboundlaw07_IntervalTight.j0 k a0 a6 a7 true t102 t103 t104 t105) else ((interval_None.f).bind fun bt110 => (timeboundlaw07_IntervalTight.j0 k a0 a6 a7 (t104 == bt110.1 && (t105 == bt110.2)) t102 t103 t104 t105))) = some r := H
    have A23 := Aside0.mk A230
    clear A230
    by_cases c24 : (t102 == t108 && (t103 == t109)) = true
    · rw [if_pos c24] at H
      have c24b0 : (t102 == t108 && (t103 == t109)) = true := c24
      (try (have c24b1 : decide (t102 = t108 && (t103 == t109)) = true := by simpa using c24))
      (try (have c24b2 : (t102 == t108 && (t103 == t109)) = true := by simpa using c24))
      clear c24
      (first | rw [c24b0] | (simp only [i64_w, i32_w]; rw [c24b0]) | skip)
      have H' := Aside0.mk H
      clear H
      try go_wp2
      have n0_ := Aside0.mk (blk_drew BK101.out)
      have n1_ := Aside0.mk (blk_drew BK106.out)
      have n2_ := Aside0.mk (blk_drew BK107.out)
      have n3_ := Aside0.mk (below_drew1 HB.out)
      clear BK101
      clear BK106
      clear BK107
      clear HB
      have BK101 := n0_
      have BK106 := n1_
      have BK107 := n2_
      have HB := n3_
      clear n0_ n1_ n2_ n3_
      refine start_ (n := 8) (S := fun w' => w'.cell? ⟨gb106, 0, none⟩ = some (.int .i64 t102) ∧ w'.cell? ⟨gb106, 1, none⟩ = some (.int .i64 t103)) (ds := []) #[false, false, false, false, false, false, false, false] (by kernel_rfl) rfl rfl ⟨(blk_cell BK106.out 0).trans rfl, (blk_cell BK106.out 1).trans rfl⟩ (fun hHeld => ?_); refine with_tabW timeboundlaw07_IntervalTight.tab2 timeboundlaw07_IntervalTight.bits2 (fun HT_ HW_ => ?_)
      generalize w22.drew = w25 at BK101 BK106 BK107 HB hHeld ⊢
      refine take_ (i := 0) (N := some 36) (v := ?_) (a' := ?_) #[true, false, false, false, false, false, false, false] rfl rfl (take_ofW HT_.out HW_.out (by kernel_rfl)) (fun _ _ _ h => h) (Or.inl ⟨by rfl, ?_⟩) hHeld ?_ ?_
      rotate_left
      · rintro w' ⟨s0, s1⟩
        go_simp
        with_reducible rfl
      rotate_left
      · simp only [Act.put, List.setIfInBounds_toArray, List.set_cons_zero, List.set_cons_succ, i64_w, i32_w]
        rfl
      refine one_ (i := 1) (N := some 37) #[true, true, false, false, false, false, false, false] rfl rfl (one_of HT_.out (by kernel_rfl)) (by decide) (fun K hK => ?_)
      refine goes_ Try.func12 (by kernel_rfl) rfl #[] (by rfl) rfl rfl (by (try simp only [List.map_toArray, List.map_cons, List.map_nil]); first | done | rfl | (simp only [List.length_drop, List.length_take]; rfl)) ?_
      with_reducible refine (interval_None.calls  t108 t109 _ A23.out).mono ?_
      rintro e w26 ⟨rfl, hb⟩
      refine ⟨_, rfl, ?_⟩
      have n0_ := Aside0.mk (blk_below (g := gb101) (o := .cells #[.int .u8 a5_0, .int .u8 a5_1] 27 (0, 0)) (by (with_reducible repeat (first | refine blk_drewN ?_ _ | refine blk_drew ?_ | refine blk_alloc ?_ _)); exact BK101.out) hb)
      have n1_ := Aside0.mk (blk_below (g := gb106) (o := .cells #[.int .i64 t102, .int .i64 t103] 23 (0, 0)) (by (with_reducible repeat (first | refine blk_drewN ?_ _ | refine blk_drew ?_ | refine blk_alloc ?_ _)); exact BK106.out) hb)
      have n2_ := Aside0.mk (blk_below (g := gb107) (o := .cells #[.int .i64 t104, .int .i64 t105] 23 (0, 0)) (by (with_reducible repeat (first | refine blk_drewN ?_ _ | refine blk_drew ?_ | refine blk_alloc ?_ _)); exact BK107.out) hb)
      have n3_ := Aside0.mk (below_step (by repeat (first | (with_reducible first | exact HB.out | apply below_alloc | apply pw_below_drewN | apply below_drew1 | refine below_set ?_ GE101.out | refine below_set ?_ GE106.out | refine below_set ?_ GE107.out) | exact HB.out)) hb)
      clear BK101
      clear BK106
      clear BK107
      clear HB
      have BK101 := n0_
      have BK106 := n1_
      have BK107 := n2_
      have HB := n3_
      clear n0_ n1_ n2_ n3_
      (try clear hb)
      (try clear hb2)
      (try clear hk)
      (try clear hi)
      refine hK.out _ _ ⟨(blk_cell BK106.out 0).trans rfl, (blk_cell BK106.out 1).trans rfl⟩ (fun hHeld => ?_)
      clear hK K
      refine norm_ (a' := ?_) ?_ ?_
      rotate_left
      · show Act.put _ (some 37) _ = _
        simp only [Act.put, List.setIfInBounds_toArray, List.set_cons_zero, List.set_cons_succ, i64_w, i32_w]
        rfl
      refine pure_ (i := 2) (N := some 38) (v := ?_) (a' := ?_) #[true, true, true, false, false, false, false, false] rfl rfl (any_of HT_.out (by kernel_rfl)) (fun _ _ _ h => h) (Or.inl ⟨by rfl, ?_⟩) ?_ ?_
      rotate_left
      · intro w'
        go_simp
        with_reducible rfl
      rotate_left
      · simp only [Act.put, List.setIfInBounds_toArray, List.set_cons_zero, List.set_cons_succ, i64_w, i32_w]
        rfl
      refine pure_ (i := 3) (N := some 39) (v := ?_) (a' := ?_) #[true, true, true, true, false, false, false, false] rfl rfl (any_of HT_.out (by kernel_rfl)) (fun _ _ _ h => h) (Or.inl ⟨by rfl, ?_⟩) ?_ ?_
      rotate_left
      · intro w'
        go_simp
        with_reducible rfl
      rotate_left
      · simp only [Act.put, List.setIfInBounds_toArray, List.set_cons_zero, List.set_cons_succ, i64_w, i32_w]
        rfl
      refine pure_ (i := 4) (N := some 40) (v := undef) (a' := ?_) #[true, true, true, true, true, false, false, false] rfl rfl (any_of HT_.out (by kernel_rfl)) (fun _ _ _ h => h) (Or.inr ⟨by rfl, rfl⟩) ?_ ?_
      rotate_left
      · simp only [Act.put, List.setIfInBounds_toArray, List.set_cons_zero, List.set_cons_succ, i64_w, i32_w]
        rfl
      refine pure_ (i := 5) (N := some 41) (v := undef) (a' := ?_) #[true, true, true, true, true, true, false, false] rfl rfl (any_of HT_.out (by kernel_rfl)) (fun _ _ _ h => h) (Or.inr ⟨by rfl, rfl⟩) ?_ ?_
      rotate_left
      · simp only [Act.put, List.setIfInBounds_toArray, List.set_cons_zero, List.set_cons_succ, i64_w, i32_w]
        rfl
      refine pure_ (i := 6) (N := some 42) (v := undef) (a' := ?_) #[true, true, true, true, true, true, true, false] rfl rfl (any_of HT_.out (by kernel_rfl)) (fun _ _ _ h => h) (Or.inr ⟨by rfl, rfl⟩) ?_ ?_
      rotate_left
      · simp only [Act.put, List.setIfInBounds_toArray, List.set_cons_zero, List.set_cons_succ, i64_w, i32_w]
        rfl
      refine pure_ (i := 7) (N := some 43) (v := ?_) (a' := ?_) #[true, true, true, true, true, true, true, true] rfl rfl (any_of HT_.out (by kernel_rfl)) (fun _ _ _ h => h) (Or.inl ⟨by rfl, ?_⟩) ?_ ?_
      rotate_left
      · intro w'
        go_simp
        with_reducible rfl
      rotate_left
      · simp only [Act.put, List.setIfInBounds_toArray, List.set_cons_zero, List.set_cons_succ, i64_w, i32_w]
        rfl
      refine done_ (done_of HT_.out (by kernel_rfl)) ?_
      try go_wp2
      go_meet
      case rel => exact ⟨_, (true), (by first | rfl | (simp; done) | (simp [*]; done)), H', ⟨by first | omega | exact Nat.le_refl _⟩, ⟨by (with_reducible repeat (first | refine blk_drewN ?_ _ | refine blk_drew ?_ | refine blk_alloc ?_ _)); exact BK101.out⟩, ⟨by (with_reducible repeat (first | refine blk_drewN ?_ _ | refine blk_drew ?_ | refine blk_alloc ?_ _)); exact BK106.out⟩, ⟨by (with_reducible repeat (first | refine blk_drewN ?_ _ | refine blk_drew ?_ | refine blk_alloc ?_ _)); exact BK107.out⟩, ⟨by repeat (first | (with_reducible first | exact HB.out | apply below_alloc | apply pw_below_drewN | apply below_drew1 | refine below_set ?_ GE101.out | refine below_set ?_ GE106.out | refine below_set ?_ GE107.out) | exact HB.out)⟩⟩
    · rw [if_neg c24] at H
      have c24b0 : (t102 == t108 && (t103 == t109)) = false := by simpa using c24
      (try (have c24b1 : decide (t102 = t108 && (t103 == t109)) = false := by simpa using c24))
      (try (have c24b2 : (t102 == t108 && (t103 == t109)) = false := by simpa using c24))
      (try (have c24b3 : ¬ (t102 = t108 && (t103 == t109)) := by simpa using c24))
      clear c24
      (first | rw [c24b0] | (simp only [i64_w, i32_w]; rw [c24b0]) | skip)
      replace H := Option.bind_eq_some_iff.mp H
      obtain ⟨⟨t110, t111⟩, A270, H⟩ := H
      replace H : (timeboundlaw07_IntervalTight.j0 k a0 a6 a7 (t104 == t110 && (t105 == t111)) t102 t103 t104 t105) = some r := H
      have A27 := Aside0.mk A270
      clear A270
      have H' := Aside0.mk H
      clear H
      try go_wp2
      have n0_ := Aside0.mk (blk_drew BK101.out)
      have n1_ := Aside0.mk (blk_drew BK106.out)
      have n2_ := Aside0.mk (blk_drew BK107.out)
      have n3_ := Aside0.mk (below_drew1 HB.out)
      clear BK101
      clear BK106
      clear BK107
      clear HB
      have BK101 := n0_
      have BK106 := n1_
      have BK107 := n2_
      have HB := n3_
      clear n0_ n1_ n2_ n3_
      refine start_ (n := 8) (S := fun w' => w'.cell? ⟨gb106, 0, none⟩ = some (.int .i64 t102) ∧ w'.cell? ⟨gb106, 1, none⟩ = some (.int .i64 t103) ∧ w'.cell? ⟨gb107, 0, none⟩ = some (.int .i64 t104) ∧ w'.cell? ⟨gb107, 1, none⟩ = some (.int .i64 t105)) (ds := []) #[false, false, false, false, false, false, false, false] (by kernel_rfl) rfl rfl ⟨(blk_cell BK106.out 0).trans rfl, (blk_cell BK106.out 1).trans rfl, (blk_cell BK107.out 0).trans rfl, (blk_cell BK107.out 1).trans rfl⟩ (fun hHeld => ?_); refine with_tabW timeboundlaw07_IntervalTight.tab2 timeboundlaw07_IntervalTight.bits2 (fun HT_ HW_ => ?_)
      generalize w22.drew = w28 at BK101 BK106 BK107 HB hHeld ⊢
      refine take_ (i := 0) (N := some 36) (v := ?_) (a' := ?_) #[true, false, false, false, false, false, false, false] rfl rfl (take_ofW HT_.out HW_.out (by kernel_rfl)) (fun _ _ _ h => h) (Or.inl ⟨by rfl, ?_⟩) hHeld ?_ ?_
      rotate_left
      · rintro w' ⟨s0, s1, s2, s3⟩
        go_simp
        with_reducible rfl
      rotate_left
      · simp only [Act.put, List.setIfInBounds_toArray, List.set_cons_zero, List.set_cons_succ, i64_w, i32_w]
        rfl
      refine one_ (i := 1) (N := some 37) #[true, true, false, false, false, false, false, false] rfl rfl (one_of HT_.out (by kernel_rfl)) (by decide) (fun K hK => ?_)
      refine goes_ Try.func12 (by kernel_rfl) rfl #[] (by rfl) rfl rfl (by (try simp only [List.map_toArray, List.map_cons, List.map_nil]); first | done | rfl | (simp only [List.length_drop, List.length_take]; rfl)) ?_
      with_reducible refine (interval_None.calls  t108 t109 _ A23.out).mono ?_
      rintro e w29 ⟨rfl, hb⟩
      refine ⟨_, rfl, ?_⟩
      have n0_ := Aside0.mk (blk_below (g := gb101) (o := .cells #[.int .u8 a5_0, .int .u8 a5_1] 27 (0, 0)) (by (with_reducible repeat (first | refine blk_drewN ?_ _ | refine blk_drew ?_ | refine blk_alloc ?_ _)); exact BK101.out) hb)
      have n1_ := Aside0.mk (blk_below (g := gb106) (o := .cells #[.int .i64 t102, .int .i64 t103] 23 (0, 0)) (by (with_reducible repeat (first | refine blk_drewN ?_ _ | refine blk_drew ?_ | refine blk_alloc ?_ _)); exact BK106.out) hb)
      have n2_ := Aside0.mk (blk_below (g := gb107) (o := .cells #[.int .i64 t104, .int .i64 t105] 23 (0, 0)) (by (with_reducible repeat (first | refine blk_drewN ?_ _ | refine blk_drew ?_ | refine blk_alloc ?_ _)); exact BK107.out) hb)
      have n3_ := Aside0.mk (below_step (by repeat (first | (with_reducible first | exact HB.out | apply below_alloc | apply pw_below_drewN | apply below_drew1 | refine below_set ?_ GE101.out | refine below_set ?_ GE106.out | refine below_set ?_ GE107.out) | exact HB.out)) hb)
      clear BK101
      clear BK106
      clear BK107
      clear HB
      have BK101 := n0_
      have BK106 := n1_
      have BK107 := n2_
      have HB := n3_
      clear n0_ n1_ n2_ n3_
      (try clear hb)
      (try clear hb2)
      (try clear hk)
      (try clear hi)
      refine hK.out _ _ ⟨(blk_cell BK106.out 0).trans rfl, (blk_cell BK106.out 1).trans rfl, (blk_cell BK107.out 0).trans rfl, (blk_cell BK107.out 1).trans rfl⟩ (fun hHeld => ?_)
      clear hK K
      refine norm_ (a' := ?_) ?_ ?_
      rotate_left
      · show Act.put _ (some 37) _ = _
        simp only [Act.put, List.setIfInBounds_toArray, List.set_cons_zero, List.set_cons_succ, i64_w, i32_w]
        rfl
      refine pure_ (i := 2) (N := some 38) (v := ?_) (a' := ?_) #[true, true, true, false, false, false, false, false] rfl rfl (any_of HT_.out (by kernel_rfl)) (fun _ _ _ h => h) (Or.inl ⟨by rfl, ?_⟩) ?_ ?_
      rotate_left
      · intro w'
        go_simp
        with_reducible rfl
      rotate_left
      · simp only [Act.put, List.setIfInBounds_toArray, List.set_cons_zero, List.set_cons_succ, i64_w, i32_w]
        rfl
      refine pure_ (i := 3) (N := some 39) (v := ?_) (a' := ?_) #[true, true, true, true, false, false, false, false] rfl rfl (any_of HT_.out (by kernel_rfl)) (fun _ _ _ h => h) (Or.inl ⟨by rfl, ?_⟩) ?_ ?_
      rotate_left
      · intro w'
        go_simp
        with_reducible rfl
      rotate_left
      · simp only [Act.put, List.setIfInBounds_toArray, List.set_cons_zero, List.set_cons_succ, i64_w, i32_w]
        rfl
      refine take_ (i := 4) (N := some 40) (v := ?_) (a' := ?_) #[true, true, true, true, true, false, false, false] rfl rfl (take_ofW HT_.out HW_.out (by kernel_rfl)) (fun _ _ _ h => h) (Or.inl ⟨by rfl, ?_⟩) hHeld ?_ ?_
      rotate_left
      · rintro w' ⟨s0, s1, s2, s3⟩
        go_simp
        with_reducible rfl
      rotate_left
      · simp only [Act.put, List.setIfInBounds_toArray, List.set_cons_zero, List.set_cons_succ, i64_w, i32_w]
        rfl
      refine one_ (i := 5) (N := some 41) #[true, true, true, true, true, true, false, false] rfl rfl (one_of HT_.out (by kernel_rfl)) (by decide) (fun K hK => ?_)
      refine goes_ Try.func12 (by kernel_rfl) rfl #[] (by rfl) rfl rfl (by (try simp only [List.map_toArray, List.map_cons, List.map_nil]); first | done | rfl | (simp only [List.length_drop, List.length_take]; rfl)) ?_
      with_reducible refine (interval_None.calls  t110 t111 _ A27.out).mono ?_
      rintro e w30 ⟨rfl, hb⟩
      refine ⟨_, rfl, ?_⟩
      have n0_ := Aside0.mk (blk_below (g := gb101) (o := .cells #[.int .u8 a5_0, .int .u8 a5_1] 27 (0, 0)) (by (with_reducible repeat (first | refine blk_drewN ?_ _ | refine blk_drew ?_ | refine blk_alloc ?_ _)); exact BK101.out) hb)
      have n1_ := Aside0.mk (blk_below (g := gb106) (o := .cells #[.int .i64 t102, .int .i64 t103] 23 (0, 0)) (by (with_reducible repeat (first | refine blk_drewN ?_ _ | refine blk_drew ?_ | refine blk_alloc ?_ _)); exact BK106.out) hb)
      have n2_ := Aside0.mk (blk_below (g := gb107) (o := .cells #[.int .i64 t104, .int .i64 t105] 23 (0, 0)) (by (with_reducible repeat (first | refine blk_drewN ?_ _ | refine blk_drew ?_ | refine blk_alloc ?_ _)); exact BK107.out) hb)
      have n3_ := Aside0.mk (below_step (by repeat (first | (with_reducible first | exact HB.out | apply below_alloc | apply pw_below_drewN | apply below_drew1 | refine below_set ?_ GE101.out | refine below_set ?_ GE106.out | refine below_set ?_ GE107.out) | exact HB.out)) hb)
      clear BK101
      clear BK106
      clear BK107
      clear HB
      have BK101 := n0_
      have BK106 := n1_
      have BK107 := n2_
      have HB := n3_
      clear n0_ n1_ n2_ n3_
      (try clear hb)
      (try clear hb2)
      (try clear hk)
      (try clear hi)
      refine hK.out _ _ ⟨(blk_cell BK106.out 0).trans rfl, (blk_cell BK106.out 1).trans rfl, (blk_cell BK107.out 0).trans rfl, (blk_cell BK107.out 1).trans rfl⟩ (fun hHeld => ?_)
      clear hK K
      refine norm_ (a' := ?_) ?_ ?_
      rotate_left
      · show Act.put _ (some 41) _ = _
        simp only [Act.put, List.setIfInBounds_toArray, List.set_cons_zero, List.set_cons_succ, i64_w, i32_w]
        rfl
      refine pure_ (i := 6) (N := some 42) (v := ?_) (a' := ?_) #[true, true, true, true, true, true, true, false] rfl rfl (any_of HT_.out (by kernel_rfl)) (fun _ _ _ h => h) (Or.inl ⟨by rfl, ?_⟩) ?_ ?_
      rotate_left
      · intro w'
        go_simp
        with_reducible rfl
      rotate_left
      · simp only [Act.put, List.setIfInBounds_toArray, List.set_cons_zero, List.set_cons_succ, i64_w, i32_w]
        rfl
      refine pure_ (i := 7) (N := some 43) (v := ?_) (a' := ?_) #[true, true, true, true, true, true, true, true] rfl rfl (any_of HT_.out (by kernel_rfl)) (fun _ _ _ h => h) (Or.inl ⟨by rfl, ?_⟩) ?_ ?_
      rotate_left
      · intro w'
        go_simp
        with_reducible rfl
      rotate_left
      · simp only [Act.put, List.setIfInBounds_toArray, List.set_cons_zero, List.set_cons_succ, i64_w, i32_w]
        rfl
      refine done_ (done_of HT_.out (by kernel_rfl)) ?_
      try go_wp2
      go_meet
      case rel => exact ⟨_, ((t104 == t110 && (t105 == t111))), (by first | rfl | (simp; done) | (simp [*]; done)), H', ⟨by first | omega | exact Nat.le_refl _⟩, ⟨by (with_reducible repeat (first | refine blk_drewN ?_ _ | refine blk_drew ?_ | refine blk_alloc ?_ _)); exact BK101.out⟩, ⟨by (with_reducible repeat (first | refine blk_drewN ?_ _ | refine blk_drew ?_ | refine blk_alloc ?_ _)); exact BK106.out⟩, ⟨by (with_reducible repeat (first | refine blk_drewN ?_ _ | refine blk_drew ?_ | refine blk_alloc ?_ _)); exact BK107.out⟩, ⟨by repeat (first | (with_reducible first | exact HB.out | apply below_alloc | apply pw_below_drewN | apply below_drew1 | refine below_set ?_ GE101.out | refine below_set ?_ GE106.out | refine below_set ?_ GE107.out) | exact HB.out)⟩⟩
  case rest =>
    clear HC11
    try clear c1
    try clear c2
    try clear p2
    try clear c6
    try clear c12
    try clear c15
    try clear c24
    try clear c24b0
    try clear c24b1
    try clear c24b2
    obtain ⟨kq, x43_10, rfl, HA, HJ10, BK101, BK106, BK107, HB⟩ := hcut
    cases kq with
    | zero => exact absurd HA.out (by simp [timeboundlaw07_IntervalTight.j0])
    | succ kj10 =>
      have H := HA.out
      clear HA
      simp only [timeboundlaw07_IntervalTight.j0] at H
      by_cases c31 : x43_10 = true
      · subst c31
        have H1 : ((timeboundlaw07_awake.f).bind fun t112 => (some t112)) = some r := by rw [if_pos rfl] at H; exact H
        clear H
        have H := H1
        clear H1
        replace H := Option.bind_eq_some_iff.mp H
        obtain ⟨t112, A320, H⟩ := H
        replace H : (some t112) = some r := H
        have A32 := Aside0.mk A320
        clear A320
        obtain rfl := Option.some.inj H
        go_wp2_with (first | ((with_reducible refine gate_callee (f := 14) rfl ?_); refine goesL_ (some 44) rfl rfl Try.func14 (by kernel_rfl) rfl #[] rfl (by (try simp only [List.map_toArray, List.map_cons, List.map_nil]); first | done | rfl | (simp only [List.length_drop, List.length_take]; rfl)) ?_; (with_reducible refine (timeboundlaw07_awake.calls  t112 _ A32.out).mono ?_); rintro e w33 ⟨rfl, hb⟩; refine ⟨_, rfl, ?_⟩; have n0_ := Aside0.mk (blk_below (g := gb101) (o := .cells #[.int .u8 a5_0, .int .u8 a5_1] 27 (0, 0)) (by (with_reducible repeat (first | refine blk_drewN ?_ _ | refine blk_drew ?_ | refine blk_alloc ?_ _)); exact BK101.out) hb); have n1_ := Aside0.mk (blk_below (g := gb106) (o := .cells #[.int .i64 t102, .int .i64 t103] 23 (0, 0)) (by (with_reducible repeat (first | refine blk_drewN ?_ _ | refine blk_drew ?_ | refine blk_alloc ?_ _)); exact BK106.out) hb); have n2_ := Aside0.mk (blk_below (g := gb107) (o := .cells #[.int .i64 t104, .int .i64 t105] 23 (0, 0)) (by (with_reducible repeat (first | refine blk_drewN ?_ _ | refine blk_drew ?_ | refine blk_alloc ?_ _)); exact BK107.out) hb); have n3_ := Aside0.mk (below_step (by repeat (first | (with_reducible first | exact HB.out | apply below_alloc | apply pw_below_drewN | apply below_drew1 | refine below_set ?_ GE101.out | refine below_set ?_ GE106.out | refine below_set ?_ GE107.out) | exact HB.out)) hb); clear BK101; clear BK106; clear BK107; clear HB; have BK101 := n0_; have BK106 := n1_; have BK107 := n2_; have HB := n3_; clear n0_ n1_ n2_ n3_; (try clear hb); (try clear hb2); (try clear hk); (try clear hi)))
        go_ret
        exact ⟨by first | rfl | (simp [errW_none, errW_some] <;> rfl) | (simp [*, errW_none, errW_some] <;> rfl), by repeat (first | (with_reducible first | exact HB.out | apply below_alloc | apply pw_below_drewN | apply below_drew1 | refine below_set ?_ GE101.out | refine below_set ?_ GE106.out | refine below_set ?_ GE107.out) | exact HB.out)⟩
      · replace c31 := Bool.eq_false_iff.mpr c31
        subst c31
        have H1 : ((interval_Do.f 1 t102 t103 t104 t105).bind fun bt113 => ((interval_Do.f 2 t102 t103 t104 t105).bind fun bt115 => (if (wrap64 (t102 + t104)) ≥ (-2147483648) then (if (wrap64 (t103 + t105)) < 2147483648 then (if bt113.1 = (wrap64 (t102 + t104)) then (if bt113.2 = (wrap64 (t103 + t105)) then (if (wrap64 (t102 - t105)) ≥ (-2147483648) then (if (wrap64 (t103 - t104)) < 2147483648 then (if bt115.1 = (wrap64 (t102 - t105)) then (timeboundlaw07_IntervalTight.j1 kj10 a0 a6 a7 (bt115.2 != (wrap64 (t103 - t104))) t102 t103 t104 t105) else (none)) else (timeboundlaw07_IntervalTight.j1 kj10 a0 a6 a7 false t102 t103 t104 t105)) else (timeboundlaw07_IntervalTight.j1 kj10 a0 a6 a7 false t102 t103 t104 t105)) else (none)) else (none)) else (if (wrap64 (t102 - t105)) ≥ (-2147483648) then (if (wrap64 (t103 - t104)) < 2147483648 then (if bt115.1 = (wrap64 (t102 - t105)) then (timeboundlaw07_IntervalTight.j1 kj10 a0 a6 a7 (bt115.2 != (wrap64 (t103 - t104))) t102 t103 t104 t105) else (none)) else (timeboundlaw07_IntervalTight.j1 kj10 a0 a6 a7 false t102 t103 t104 t105)) else (timeboundlaw07_IntervalTight.j1 kj10 a0 a6 a7 false t102 t103 t104 t105))) else (if (wrap64 (t102 - t105)) ≥ (-2147483648) then (if (wrap64 (t103 - t104)) < 2147483648 then (if bt115.1 = (wrap64 (t102 - t105)) then (timeboundlaw07_IntervalTight.j1 kj10 a0 a6 a7 (bt115.2 != (wrap64 (t103 - t104))) t102 t103 t104 t105) else (none)) else (timeboundlaw07_IntervalTight.j1 kj10 a0 a6 a7 false t102 t103 t104 t105)) else (timeboundlaw07_IntervalTight.j1 kj10 a0 a6 a7 false t102 t103 t104 t105))))) = some r := by rw [if_neg (show ¬ (false = true) by decide)] at H; exact H
        clear H
        have H := H1
        clear H1
        replace H := Option.bind_eq_some_iff.mp H
        obtain ⟨⟨t113, t114⟩, A340, H⟩ := H
        replace H : ((interval_Do.f 2 t102 t103 t104 t105).bind fun bt115 => (if (wrap64 (t102 + t104)) ≥ (-2147483648) then (if (wrap64 (t103 + t105)) < 2147483648 then (if t113 = (wrap64 (t102 + t104)) then (if t114 = (wrap64 (t103 + t105)) then (if (wrap64 (t102 - t105)) ≥ (-2147483648) then (if (wrap64 (t103 - t104)) < 2147483648 then (if bt115.1 = (wrap64 (t102 - t105)) then (timeboundlaw07_IntervalTight.j1 kj10 a0 a6 a7 (bt115.2 != (wrap64 (t103 - t104))) t102 t103 t104 t105) else (none)) else (timeboundlaw07_IntervalTight.j1 kj10 a0 a6 a7 false t102 t103 t104 t105)) else (timeboundlaw07_IntervalTight.j1 kj10 a0 a6 a7 false t102 t103 t104 t105)) else (none)) else (none)) else (if (wrap64 (t102 - t105)) ≥ (-2147483648) then (if (wrap64 (t103 - t104)) < 2147483648 then (if bt115.1 = (wrap64 (t102 - t105)) then (timeboundlaw07_IntervalTight.j1 kj10 a0 a6 a7 (bt115.2 != (wrap64 (t103 - t104))) t102 t103 t104 t105) else (none)) else (timeboundlaw07_IntervalTight.j1 kj10 a0 a6 a7 false t102 t103 t104 t105)) else (timeboundlaw07_IntervalTight.j1 kj10 a0 a6 a7 false t102 t103 t104 t105))) else (if (wrap64 (t102 - t105)) ≥ (-2147483648) then (if (wrap64 (t103 - t104)) < 2147483648 then (if bt115.1 = (wrap64 (t102 - t105)) then (timeboundlaw07_IntervalTight.j1 kj10 a0 a6 a7 (bt115.2 != (wrap64 (t103 - t104))) t102 t103 t104 t105) else (none)) else (timeboundlaw07_IntervalTight.j1 kj10 a0 a6 a7 false t102 t103 t104 t105)) else (timeboundlaw07_IntervalTight.j1 kj10 a0 a6 a7 false t102 t103 t104 t105)))) = some r := H
        have A34 := Aside0.mk A340
        clear A340
        replace H := Option.bind_eq_some_iff.mp H
        obtain ⟨⟨t115, t116⟩, A350, H⟩ := H
        replace H : (if (wrap64 (t102 + t104)) ≥ (-2147483648) then (if (wrap64 (t103 + t105)) < 2147483648 then (if t113 = (wrap64 (t102 + t104)) then (if t114 = (wrap64 (t103 + t105)) then (if (wrap64 (t102 - t105)) ≥ (-2147483648) then (if (wrap64 (t103 - t104)) < 2147483648 then (if t115 = (wrap64 (t102 - t105)) then (timeboundlaw07_IntervalTight.j1 kj10 a0 a6 a7 (t116 != (wrap64 (t103 - t104))) t102 t103 t104 t105) else (none)) else (timeboundlaw07_IntervalTight.j1 kj10 a0 a6 a7 false t102 t103 t104 t105)) else (timeboundlaw07_IntervalTight.j1 kj10 a0 a6 a7 false t102 t103 t104 t105)) else (none)) else (none)) else (if (wrap64 (t102 - t105)) ≥ (-2147483648) then (if (wrap64 (t103 - t104)) < 2147483648 then (if t115 = (wrap64 (t102 - t105)) then (timeboundlaw07_IntervalTight.j1 kj10 a0 a6 a7 (t116 != (wrap64 (t103 - t104))) t102 t103 t104 t105) else (none)) else (timeboundlaw07_IntervalTight.j1 kj10 a0 a6 a7 false t102 t103 t104 t105)) else (timeboundlaw07_IntervalTight.j1 kj10 a0 a6 a7 false t102 t103 t104 t105))) else (if (wrap64 (t102 - t105)) ≥ (-2147483648) then (if (wrap64 (t103 - t104)) < 2147483648 then (if t115 = (wrap64 (t102 - t105)) then (timeboundlaw07_IntervalTight.j1 kj10 a0 a6 a7 (t116 != (wrap64 (t103 - t104))) t102 t103 t104 t105) else (none)) else (timeboundlaw07_IntervalTight.j1 kj10 a0 a6 a7 false t102 t103 t104 t105)) else (timeboundlaw07_IntervalTight.j1 kj10 a0 a6 a7 false t102 t103 t104 t105))) = some r := H
        have A35 := Aside0.mk A350
        clear A350
        have HC36 := Aside0.mk H
        clear H
        try go_wp2
        have n0_ := Aside0.mk (blk_drew BK101.out)
        have n1_ := Aside0.mk (blk_drew BK106.out)
        have n2_ := Aside0.mk (blk_drew BK107.out)
        have n3_ := Aside0.mk (below_drew1 HB.out)
        clear BK101
        clear BK106
        clear BK107
        clear HB
        have BK101 := n0_
        have BK106 := n1_
        have BK107 := n2_
        have HB := n3_
        clear n0_ n1_ n2_ n3_
        refine start_ (n := 10) (S := fun w' => True) (ds := []) #[false, false, false, false, false, false, false, false, false, false] (by kernel_rfl) rfl rfl trivial (fun hHeld => ?_); refine with_tabW timeboundlaw07_IntervalTight.tab4 timeboundlaw07_IntervalTight.bits4 (fun HT_ HW_ => ?_)
        generalize wc.drew = w37 at BK101 BK106 BK107 HB hHeld ⊢
        refine inv_at [0, 1, 2, 3, 4, 5, 6, 7, 8, 9] (fun a0_ b a w' => ∃ (gb117 : Nat) (gb118 : Nat) (m6_ : Value) (m7_ : Value), a = putSel a0_ b [(0, 45, .agg #[.int .i64 t102, .int .i64 t103]), (1, 46, .agg #[.int .i64 t104, .int .i64 t105]), (2, 47, .agg #[.int .i64 t113, .int .i64 t114]), (3, 48, .agg #[.int .i64 t102, .int .i64 t103]), (4, 49, .agg #[.int .i64 t104, .int .i64 t105]), (5, 50, .agg #[.int .i64 t115, .int .i64 t116]), (6, 19, m6_), (7, 20, m7_)] ∧ (w'.heap[gb101]? = some (.cells #[.int .u8 a5_0, .int .u8 a5_1] 27 (0, 0))) ∧ (w'.heap[gb106]? = some (.cells #[.int .i64 t102, .int .i64 t103] 23 (0, 0))) ∧ (w'.heap[gb107]? = some (.cells #[.int .i64 t104, .int .i64 t105] 23 (0, 0))) ∧ (Below w.heap.size w w') ∧ (b 6 = true → b 7 = true → gb118 ≠ gb117) ∧ (b 6 = true → b 7 = true → gb117 ≠ gb118) ∧ (b 6 = true → b 8 = false → w'.heap[gb117]? = some (.cells #[.int .i64 0, .int .i64 0] 23 (0, 0))) ∧ (b 6 = true → w.heap.size ≤ gb117) ∧ (b 6 = true → w.heap.size ≤ gb117) ∧ (b 6 = true → gb101 ≠ gb117) ∧ (b 6 = true → gb117 ≠ gb101) ∧ (b 6 = true → gb106 ≠ gb117) ∧ (b 6 = true → gb117 ≠ gb106) ∧ (b 6 = true → gb107 ≠ gb117) ∧ (b 6 = true → gb117 ≠ gb107) ∧ (b 7 = true → b 9 = false → w'.heap[gb118]? = some (.cells #[.int .i64 0, .int .i64 0] 23 (0, 0))) ∧ (b 7 = true → w.heap.size ≤ gb118) ∧ (b 7 = true → w.heap.size ≤ gb118) ∧ (b 7 = true → gb101 ≠ gb118) ∧ (b 7 = true → gb118 ≠ gb101) ∧ (b 7 = true → gb106 ≠ gb118) ∧ (b 7 = true → gb118 ≠ gb106) ∧ (b 7 = true → gb107 ≠ gb118) ∧ (b 7 = true → gb118 ≠ gb107) ∧ (b 8 = true → w'.heap[gb117]? = some (.cells #[.int .i64 t113, .int .i64 t114] 23 (0, 0))) ∧ (b 9 = true → w'.heap[gb118]? = some (.cells #[.int .i64 t115, .int .i64 t116] 23 (0, 0))) ∧ (b 6 = true → (m6_ : Value) = .pointer (some ⟨gb117, 0, none⟩)) ∧ (b 7 = true → (m7_ : Value) = .pointer (some ⟨gb118, 0, none⟩))) HT_.out HW_.out (by kernel_rfl) (by kernel_rfl) ?_ ?_ ?_
        · exact ⟨0, 0, .bool false, .bool false, by simp only [putSel, Bool.false_eq_true, if_false], BK101.out, BK106.out, BK107.out, HB.out, fun h_ => absurd h_ (by decide), fun h_ => absurd h_ (by decide), fun h_ => absurd h_ (by decide), fun h_ => absurd h_ (by decide), fun h_ => absurd h_ (by decide), fun h_ => absurd h_ (by decide), fun h_ => absurd h_ (by decide), fun h_ => absurd h_ (by decide), fun h_ => absurd h_ (by decide), fun h_ => absurd h_ (by decide), fun h_ => absurd h_ (by decide), fun h_ => absurd h_ (by decide), fun h_ => absurd h_ (by decide), fun h_ => absurd h_ (by decide), fun h_ => absurd h_ (by decide), fun h_ => absurd h_ (by decide), fun h_ => absurd h_ (by decide), fun h_ => absurd h_ (by decide), fun h_ => absurd h_ (by decide), fun h_ => absurd h_ (by decide), fun h_ => absurd h_ (by decide), fun h_ => absurd h_ (by decide), fun h_ => absurd h_ (by decide), fun h_ => absurd h_ (by decide)⟩
        · skip
          clear BK101 BK106 BK107 HB
          refine steps_cons ?_ ?_
          · rintro b a w' ⟨gb117, gb118, m6_, m7_, ha, Q_BK101, Q_BK106, Q_BK107, Q_HB, Q_NB118_117, Q_NB117_118, Q_BK117, Q_GW117, Q_GE117, Q_NB101_117, Q_NB117_101, Q_NB106_117, Q_NB117_106, Q_NB107_117, Q_NB117_107, Q_BK118, Q_GW118, Q_GE118, Q_NB101_118, Q_NB118_101, Q_NB106_118, Q_NB118_106, Q_NB107_118, Q_NB118_107, Q_BK117_e8, Q_BK118_e9, Q_X6_, Q_X7_⟩ hb_ hon hoff
            refine ⟨_, rfl, fun K hK => ?_⟩
            have e17 : a.tmps[17]? = some (.pointer (some ⟨gb106, 0, none⟩)) := by rw [ha]; exact (putSel_off rfl).trans rfl
            replace ha := Aside0.mk ha
            have BK101 := Aside0.mk Q_BK101
            have BK106 := Aside0.mk Q_BK106
            have BK107 := Aside0.mk Q_BK107
            have HB := Aside0.mk Q_HB
            have hc0_ : w'.cell? ⟨gb106, 0, none⟩ = some (.int .i64 t102) := (blk_cell BK106.out 0).trans rfl
            have hc1_ : w'.cell? ⟨gb106, 1, none⟩ = some (.int .i64 t103) := (blk_cell BK106.out 1).trans rfl
            refine value_ (w1 := w') (v := .agg #[.int .i64 t102, .int .i64 t103]) (by rfl) rfl ?_ ?_
            · go_simp
              (try simp only [i64_w])
              try rfl
            refine hK.out _ _ ⟨gb117, gb118, m6_, m7_, (by rw [ha.out]; exact putSel_upk 0 hb_ rfl rfl rfl), Q_BK101, Q_BK106, Q_BK107, Q_HB, Q_NB118_117, Q_NB117_118, Q_BK117, Q_GW117, Q_GE117, Q_NB101_117, Q_NB117_101, Q_NB106_117, Q_NB117_106, Q_NB107_117, Q_NB117_107, Q_BK118, Q_GW118, Q_GE118, Q_NB101_118, Q_NB118_101, Q_NB106_118, Q_NB118_106, Q_NB107_118, Q_NB118_107, fun h0_ => absurd ((hoff 8 (by kernel_rfl)).symm.trans h0_) (by decide), fun h0_ => absurd ((hoff 9 (by kernel_rfl)).symm.trans h0_) (by decide), Q_X6_, Q_X7_⟩
          refine steps_cons ?_ ?_
          · rintro b a w' ⟨gb117, gb118, m6_, m7_, ha, Q_BK101, Q_BK106, Q_BK107, Q_HB, Q_NB118_117, Q_NB117_118, Q_BK117, Q_GW117, Q_GE117, Q_NB101_117, Q_NB117_101, Q_NB106_117, Q_NB117_106, Q_NB107_117, Q_NB117_107, Q_BK118, Q_GW118, Q_GE118, Q_NB101_118, Q_NB118_101, Q_NB106_118, Q_NB118_106, Q_NB107_118, Q_NB118_107, Q_BK117_e8, Q_BK118_e9, Q_X6_, Q_X7_⟩ hb_ hon hoff
            refine ⟨_, rfl, fun K hK => ?_⟩
            have e18 : a.tmps[18]? = some (.pointer (some ⟨gb107, 0, none⟩)) := by rw [ha]; exact (putSel_off rfl).trans rfl
            replace ha := Aside0.mk ha
            have BK101 := Aside0.mk Q_BK101
            have BK106 := Aside0.mk Q_BK106
            have BK107 := Aside0.mk Q_BK107
            have HB := Aside0.mk Q_HB
            have hc0_ : w'.cell? ⟨gb107, 0, none⟩ = some (.int .i64 t104) := (blk_cell BK107.out 0).trans rfl
            have hc1_ : w'.cell? ⟨gb107, 1, none⟩ = some (.int .i64 t105) := (blk_cell BK107.out 1).trans rfl
            refine value_ (w1 := w') (v := .agg #[.int .i64 t104, .int .i64 t105]) (by rfl) rfl ?_ ?_
            · go_simp
              (try simp only [i64_w])
              try rfl
            refine hK.out _ _ ⟨gb117, gb118, m6_, m7_, (by rw [ha.out]; exact putSel_upk 1 hb_ rfl rfl rfl), Q_BK101, Q_BK106, Q_BK107, Q_HB, Q_NB118_117, Q_NB117_118, Q_BK117, Q_GW117, Q_GE117, Q_NB101_117, Q_NB117_101, Q_NB106_117, Q_NB117_106, Q_NB107_117, Q_NB117_107, Q_BK118, Q_GW118, Q_GE118, Q_NB101_118, Q_NB118_101, Q_NB106_118, Q_NB118_106, Q_NB107_118, Q_NB118_107, fun h0_ => absurd ((hoff 8 (by kernel_rfl)).symm.trans h0_) (by decide), fun h0_ => absurd ((hoff 9 (by kernel_rfl)).symm.trans h0_) (by decide), Q_X6_, Q_X7_⟩
          refine steps_cons ?_ ?_
          · rintro b a w' ⟨gb117, gb118, m6_, m7_, ha, Q_BK101, Q_BK106, Q_BK107, Q_HB, Q_NB118_117, Q_NB117_118, Q_BK117, Q_GW117, Q_GE117, Q_NB101_117, Q_NB117_101, Q_NB106_117, Q_NB117_106, Q_NB107_117, Q_NB117_107, Q_BK118, Q_GW118, Q_GE118, Q_NB101_118, Q_NB118_101, Q_NB106_118, Q_NB118_106, Q_NB107_118, Q_NB118_107, Q_BK117_e8, Q_BK118_e9, Q_X6_, Q_X7_⟩ hb_ hon hoff
            refine ⟨_, rfl, fun K hK => ?_⟩
            have e45 : a.tmps[45]? = some (.agg #[.int .i64 t102, .int .i64 t103]) := by rw [ha]; exact putSel_on (e := (0, 45, .agg #[.int .i64 t102, .int .i64 t103])) 0 rfl rfl (hon 0 (by kernel_rfl)) rfl
            have e46 : a.tmps[46]? = some (.agg #[.int .i64 t104, .int .i64 t105]) := by rw [ha]; exact putSel_on (e := (1, 46, .agg #[.int .i64 t104, .int .i64 t105])) 1 rfl rfl (hon 1 (by kernel_rfl)) rfl
            replace ha := Aside0.mk ha
            have BK101 := Aside0.mk Q_BK101
            have BK106 := Aside0.mk Q_BK106
            have BK107 := Aside0.mk Q_BK107
            have HB := Aside0.mk Q_HB
            refine goes_ Try.func16 (by kernel_rfl) rfl #[.int .i64 1, .agg #[.int .i64 t102, .int .i64 t103], .agg #[.int .i64 t104, .int .i64 t105]] (by rfl) rfl rfl (by first | (simp only [List.map_toArray, List.map_cons, List.map_nil, Act.eval, Array.getD_eq_getD_getElem?, Option.getD_some, e45, e46]; done) | (simp only [List.map_toArray, List.map_cons, List.map_nil, Act.eval, Array.getD_eq_getD_getElem?, Option.getD_some, e45, e46]; rfl)) ?_
            with_reducible refine (interval_Do.calls 1 t102 t103 t104 t105 t113 t114 _ A34.out).mono ?_
            rintro e w38 ⟨rfl, hb⟩
            refine ⟨_, rfl, ?_⟩
            have n0_ := Aside0.mk (blk_below (g := gb101) (o := .cells #[.int .u8 a5_0, .int .u8 a5_1] 27 (0, 0)) (by (with_reducible repeat (first | refine blk_drewN ?_ _ | refine blk_drew ?_ | refine blk_alloc ?_ _)); exact BK101.out) hb)
            have n1_ := Aside0.mk (blk_below (g := gb106) (o := .cells #[.int .i64 t102, .int .i64 t103] 23 (0, 0)) (by (with_reducible repeat (first | refine blk_drewN ?_ _ | refine blk_drew ?_ | refine blk_alloc ?_ _)); exact BK106.out) hb)
            have n2_ := Aside0.mk (blk_below (g := gb107) (o := .cells #[.int .i64 t104, .int .i64 t105] 23 (0, 0)) (by (with_reducible repeat (first | refine blk_drewN ?_ _ | refine blk_drew ?_ | refine blk_alloc ?_ _)); exact BK107.out) hb)
            have n3_ := Aside0.mk (below_step (by repeat (first | (with_reducible first | exact HB.out | apply below_alloc | apply pw_below_drewN | apply below_drew1 | refine below_set ?_ GE101.out | refine below_set ?_ GE106.out | refine below_set ?_ GE107.out) | exact HB.out)) hb)
            have z_BK117 := fun (h0_ : b 6 = true) (h1_ : b 8 = false) => (show w38.heap[gb117]? = some (.cells #[.int .i64 0, .int .i64 0] 23 (0, 0)) from by first | exact (blk_below (g := gb117) (o := .cells #[.int .i64 0, .int .i64 0] 23 (0, 0)) (by (with_reducible repeat (first | refine blk_drewN ?_ _ | refine blk_drew ?_ | refine blk_alloc ?_ _)); exact (Q_BK117 h0_ h1_)) hb))
            have z_BK118 := fun (h0_ : b 7 = true) (h1_ : b 9 = false) => (show w38.heap[gb118]? = some (.cells #[.int .i64 0, .int .i64 0] 23 (0, 0)) from by first | exact (blk_below (g := gb118) (o := .cells #[.int .i64 0, .int .i64 0] 23 (0, 0)) (by (with_reducible repeat (first | refine blk_drewN ?_ _ | refine blk_drew ?_ | refine blk_alloc ?_ _)); exact (Q_BK118 h0_ h1_)) hb))
            clear BK101
            clear BK106
            clear BK107
            clear HB
            have BK101 := n0_
            have BK106 := n1_
            have BK107 := n2_
            have HB := n3_
            clear n0_ n1_ n2_ n3_
            (try clear hb)
            (try clear hb2)
            (try clear hk)
            (try clear hi)
            refine hK.out _ _ ⟨gb117, gb118, m6_, m7_, (by rw [ha.out]; exact putSel_upk 2 hb_ rfl rfl rfl), (by (with_reducible repeat (first | refine blk_drewN ?_ _ | refine blk_drew ?_ | refine blk_alloc ?_ _)); exact BK101.out), (by (with_reducible repeat (first | refine blk_drewN ?_ _ | refine blk_drew ?_ | refine blk_alloc ?_ _)); exact BK106.out), (by (with_reducible repeat (first | refine blk_drewN ?_ _ | refine blk_drew ?_ | refine blk_alloc ?_ _)); exact BK107.out), (by repeat (first | (with_reducible first | exact HB.out | apply below_alloc | apply pw_below_drewN | apply below_drew1 | refine below_set ?_ GE101.out | refine below_set ?_ GE106.out | refine below_set ?_ GE107.out) | exact HB.out)), Q_NB118_117, Q_NB117_118, z_BK117, Q_GW117, Q_GE117, Q_NB101_117, Q_NB117_101, Q_NB106_117, Q_NB117_106, Q_NB107_117, Q_NB117_107, z_BK118, Q_GW118, Q_GE118, Q_NB101_118, Q_NB118_101, Q_NB106_118, Q_NB118_106, Q_NB107_118, Q_NB118_107, fun h0_ => absurd ((hoff 8 (by kernel_rfl)).symm.trans h0_) (by decide), fun h0_ => absurd ((hoff 9 (by kernel_rfl)).symm.trans h0_) (by decide), Q_X6_, Q_X7_⟩
          refine steps_cons ?_ ?_
          · rintro b a w' ⟨gb117, gb118, m6_, m7_, ha, Q_BK101, Q_BK106, Q_BK107, Q_HB, Q_NB118_117, Q_NB117_118, Q_BK117, Q_GW117, Q_GE117, Q_NB101_117, Q_NB117_101, Q_NB106_117, Q_NB117_106, Q_NB107_117, Q_NB117_107, Q_BK118, Q_GW118, Q_GE118, Q_NB101_118, Q_NB118_101, Q_NB106_118, Q_NB118_106, Q_NB107_118, Q_NB118_107, Q_BK117_e8, Q_BK118_e9, Q_X6_, Q_X7_⟩ hb_ hon hoff
            refine ⟨_, rfl, fun K hK => ?_⟩
            have e17 : a.tmps[17]? = some (.pointer (some ⟨gb106, 0, none⟩)) := by rw [ha]; exact (putSel_off rfl).trans rfl
            replace ha := Aside0.mk ha
            have BK101 := Aside0.mk Q_BK101
            have BK106 := Aside0.mk Q_BK106
            have BK107 := Aside0.mk Q_BK107
            have HB := Aside0.mk Q_HB
            have hc0_ : w'.cell? ⟨gb106, 0, none⟩ = some (.int .i64 t102) := (blk_cell BK106.out 0).trans rfl
            have hc1_ : w'.cell? ⟨gb106, 1, none⟩ = some (.int .i64 t103) := (blk_cell BK106.out 1).trans rfl
            refine value_ (w1 := w') (v := .agg #[.int .i64 t102, .int .i64 t103]) (by rfl) rfl ?_ ?_
            · go_simp
              (try simp only [i64_w])
              try rfl
            refine hK.out _ _ ⟨gb117, gb118, m6_, m7_, (by rw [ha.out]; exact putSel_upk 3 hb_ rfl rfl rfl), Q_BK101, Q_BK106, Q_BK107, Q_HB, Q_NB118_117, Q_NB117_118, Q_BK117, Q_GW117, Q_GE117, Q_NB101_117, Q_NB117_101, Q_NB106_117, Q_NB117_106, Q_NB107_117, Q_NB117_107, Q_BK118, Q_GW118, Q_GE118, Q_NB101_118, Q_NB118_101, Q_NB106_118, Q_NB118_106, Q_NB107_118, Q_NB118_107, fun h0_ => absurd ((hoff 8 (by kernel_rfl)).symm.trans h0_) (by decide), fun h0_ => absurd ((hoff 9 (by kernel_rfl)).symm.trans h0_) (by decide), Q_X6_, Q_X7_⟩
          refine steps_cons ?_ ?_
          · rintro b a w' ⟨gb117, gb118, m6_, m7_, ha, Q_BK101, Q_BK106, Q_BK107, Q_HB, Q_NB118_117, Q_NB117_118, Q_BK117, Q_GW117, Q_GE117, Q_NB101_117, Q_NB117_101, Q_NB106_117, Q_NB117_106, Q_NB107_117, Q_NB117_107, Q_BK118, Q_GW118, Q_GE118, Q_NB101_118, Q_NB118_101, Q_NB106_118, Q_NB118_106, Q_NB107_118, Q_NB118_107, Q_BK117_e8, Q_BK118_e9, Q_X6_, Q_X7_⟩ hb_ hon hoff
            refine ⟨_, rfl, fun K hK => ?_⟩
            have e18 : a.tmps[18]? = some (.pointer (some ⟨gb107, 0, none⟩)) := by rw [ha]; exact (putSel_off rfl).trans rfl
            replace ha := Aside0.mk ha
            have BK101 := Aside0.mk Q_BK101
            have BK106 := Aside0.mk Q_BK106
            have BK107 := Aside0.mk Q_BK107
            have HB := Aside0.mk Q_HB
            have hc0_ : w'.cell? ⟨gb107, 0, none⟩ = some (.int .i64 t104) := (blk_cell BK107.out 0).trans rfl
            have hc1_ : w'.cell? ⟨gb107, 1, none⟩ = some (.int .i64 t105) := (blk_cell BK107.out 1).trans rfl
            refine value_ (w1 := w') (v := .agg #[.int .i64 t104, .int .i64 t105]) (by rfl) rfl ?_ ?_
            · go_simp
              (try simp only [i64_w])
              try rfl
            refine hK.out _ _ ⟨gb117, gb118, m6_, m7_, (by rw [ha.out]; exact putSel_upk 4 hb_ rfl rfl rfl), Q_BK101, Q_BK106, Q_BK107, Q_HB, Q_NB118_117, Q_NB117_118, Q_BK117, Q_GW117, Q_GE117, Q_NB101_117, Q_NB117_101, Q_NB106_117, Q_NB117_106, Q_NB107_117, Q_NB117_107, Q_BK118, Q_GW118, Q_GE118, Q_NB101_118, Q_NB118_101, Q_NB106_118, Q_NB118_106, Q_NB107_118, Q_NB118_107, fun h0_ => absurd ((hoff 8 (by kernel_rfl)).symm.trans h0_) (by decide), fun h0_ => absurd ((hoff 9 (by kernel_rfl)).symm.trans h0_) (by decide), Q_X6_, Q_X7_⟩
          refine steps_cons ?_ ?_
          · rintro b a w' ⟨gb117, gb118, m6_, m7_, ha, Q_BK101, Q_BK106, Q_BK107, Q_HB, Q_NB118_117, Q_NB117_118, Q_BK117, Q_GW117, Q_GE117, Q_NB101_117, Q_NB117_101, Q_NB106_117, Q_NB117_106, Q_NB107_117, Q_NB117_107, Q_BK118, Q_GW118, Q_GE118, Q_NB101_118, Q_NB118_101, Q_NB106_118, Q_NB118_106, Q_NB107_118, Q_NB118_107, Q_BK117_e8, Q_BK118_e9, Q_X6_, Q_X7_⟩ hb_ hon hoff
            refine ⟨_, rfl, fun K hK => ?_⟩
            have e48 : a.tmps[48]? = some (.agg #[.int .i64 t102, .int .i64 t103]) := by rw [ha]; exact putSel_on (e := (3, 48, .agg #[.int .i64 t102, .int .i64 t103])) 3 rfl rfl (hon 3 (by kernel_rfl)) rfl
            have e49 : a.tmps[49]? = some (.agg #[.int .i64 t104, .int .i64 t105]) := by rw [ha]; exact putSel_on (e := (4, 49, .agg #[.int .i64 t104, .int .i64 t105])) 4 rfl rfl (hon 4 (by kernel_rfl)) rfl
            replace ha := Aside0.mk ha
            have BK101 := Aside0.mk Q_BK101
            have BK106 := Aside0.mk Q_BK106
            have BK107 := Aside0.mk Q_BK107
            have HB := Aside0.mk Q_HB
            refine goes_ Try.func16 (by kernel_rfl) rfl #[.int .i64 2, .agg #[.int .i64 t102, .int .i64 t103], .agg #[.int .i64 t104, .int .i64 t105]] (by rfl) rfl rfl (by first | (simp only [List.map_toArray, List.map_cons, List.map_nil, Act.eval, Array.getD_eq_getD_getElem?, Option.getD_some, e48, e49]; done) | (simp only [List.map_toArray, List.map_cons, List.map_nil, Act.eval, Array.getD_eq_getD_getElem?, Option.getD_some, e48, e49]; rfl)) ?_
            with_reducible refine (interval_Do.calls 2 t102 t103 t104 t105 t115 t116 _ A35.out).mono ?_
            rintro e w40 ⟨rfl, hb⟩
            refine ⟨_, rfl, ?_⟩
            have n0_ := Aside0.mk (blk_below (g := gb101) (o := .cells #[.int .u8 a5_0, .int .u8 a5_1] 27 (0, 0)) (by (with_reducible repeat (first | refine blk_drewN ?_ _ | refine blk_drew ?_ | refine blk_alloc ?_ _)); exact BK101.out) hb)
            have n1_ := Aside0.mk (blk_below (g := gb106) (o := .cells #[.int .i64 t102, .int .i64 t103] 23 (0, 0)) (by (with_reducible repeat (first | refine blk_drewN ?_ _ | refine blk_drew ?_ | refine blk_alloc ?_ _)); exact BK106.out) hb)
            have n2_ := Aside0.mk (blk_below (g := gb107) (o := .cells #[.int .i64 t104, .int .i64 t105] 23 (0, 0)) (by (with_reducible repeat (first | refine blk_drewN ?_ _ | refine blk_drew ?_ | refine blk_alloc ?_ _)); exact BK107.out) hb)
            have n3_ := Aside0.mk (below_step (by repeat (first | (with_reducible first | exact HB.out | apply below_alloc | apply pw_below_drewN | apply below_drew1 | refine below_set ?_ GE101.out | refine below_set ?_ GE106.out | refine below_set ?_ GE107.out) | exact HB.out)) hb)
            have z_BK117 := fun (h0_ : b 6 = true) (h1_ : b 8 = false) => (show w40.heap[gb117]? = some (.cells #[.int .i64 0, .int .i64 0] 23 (0, 0)) from by first | exact (blk_below (g := gb117) (o := .cells #[.int .i64 0, .int .i64 0] 23 (0, 0)) (by (with_reducible repeat (first | refine blk_drewN ?_ _ | refine blk_drew ?_ | refine blk_alloc ?_ _)); exact (Q_BK117 h0_ h1_)) hb))
            have z_BK118 := fun (h0_ : b 7 = true) (h1_ : b 9 = false) => (show w40.heap[gb118]? = some (.cells #[.int .i64 0, .int .i64 0] 23 (0, 0)) from by first | exact (blk_below (g := gb118) (o := .cells #[.int .i64 0, .int .i64 0] 23 (0, 0)) (by (with_reducible repeat (first | refine blk_drewN ?_ _ | refine blk_drew ?_ | refine blk_alloc ?_ _)); exact (Q_BK118 h0_ h1_)) hb))
            clear BK101
            clear BK106
            clear BK107
            clear HB
            have BK101 := n0_
            have BK106 := n1_
            have BK107 := n2_
            have HB := n3_
            clear n0_ n1_ n2_ n3_
            (try clear hb)
            (try clear hb2)
            (try clear hk)
            (try clear hi)
            refine hK.out _ _ ⟨gb117, gb118, m6_, m7_, (by rw [ha.out]; exact putSel_upk 5 hb_ rfl rfl rfl), (by (with_reducible repeat (first | refine blk_drewN ?_ _ | refine blk_drew ?_ | refine blk_alloc ?_ _)); exact BK101.out), (by (with_reducible repeat (first | refine blk_drewN ?_ _ | refine blk_drew ?_ | refine blk_alloc ?_ _)); exact BK106.out), (by (with_reducible repeat (first | refine blk_drewN ?_ _ | refine blk_drew ?_ | refine blk_alloc ?_ _)); exact BK107.out), (by repeat (first | (with_reducible first | exact HB.out | apply below_alloc | apply pw_below_drewN | apply below_drew1 | refine below_set ?_ GE101.out | refine below_set ?_ GE106.out | refine below_set ?_ GE107.out) | exact HB.out)), Q_NB118_117, Q_NB117_118, z_BK117, Q_GW117, Q_GE117, Q_NB101_117, Q_NB117_101, Q_NB106_117, Q_NB117_106, Q_NB107_117, Q_NB117_107, z_BK118, Q_GW118, Q_GE118, Q_NB101_118, Q_NB118_101, Q_NB106_118, Q_NB118_106, Q_NB107_118, Q_NB118_107, fun h0_ => absurd ((hoff 8 (by kernel_rfl)).symm.trans h0_) (by decide), fun h0_ => absurd ((hoff 9 (by kernel_rfl)).symm.trans h0_) (by decide), Q_X6_, Q_X7_⟩
          refine steps_cons ?_ ?_
          · rintro b a w' ⟨gb117, gb118, m6_, m7_, ha, Q_BK101, Q_BK106, Q_BK107, Q_HB, Q_NB118_117, Q_NB117_118, Q_BK117, Q_GW117, Q_GE117, Q_NB101_117, Q_NB117_101, Q_NB106_117, Q_NB117_106, Q_NB107_117, Q_NB117_107, Q_BK118, Q_GW118, Q_GE118, Q_NB101_118, Q_NB118_101, Q_NB106_118, Q_NB118_106, Q_NB107_118, Q_NB118_107, Q_BK117_e8, Q_BK118_e9, Q_X6_, Q_X7_⟩ hb_ hon hoff
            refine ⟨_, rfl, fun K hK => ?_⟩
            replace ha := Aside0.mk ha
            have BK101 := Aside0.mk Q_BK101
            have BK106 := Aside0.mk Q_BK106
            have BK107 := Aside0.mk Q_BK107
            have HB := Aside0.mk Q_HB
            refine box_step ?hg (N := 19) ?hd (cs := #[.int .i64 0, .int .i64 0]) (t := 23) ?hr ?_; (case hd => rfl); (case hg => rfl); (case hr => first | (go_simp; done) | (go_simp; rfl))
            intro gb117 hg w38 hbox hb
            have n0_ := Aside0.mk (blk_below (g := gb101) (o := .cells #[.int .u8 a5_0, .int .u8 a5_1] 27 (0, 0)) (by (with_reducible repeat (first | refine blk_drewN ?_ _ | refine blk_drew ?_ | refine blk_alloc ?_ _)); exact BK101.out) hb)
            have n1_ := Aside0.mk (blk_below (g := gb106) (o := .cells #[.int .i64 t102, .int .i64 t103] 23 (0, 0)) (by (with_reducible repeat (first | refine blk_drewN ?_ _ | refine blk_drew ?_ | refine blk_alloc ?_ _)); exact BK106.out) hb)
            have n2_ := Aside0.mk (blk_below (g := gb107) (o := .cells #[.int .i64 t104, .int .i64 t105] 23 (0, 0)) (by (with_reducible repeat (first | refine blk_drewN ?_ _ | refine blk_drew ?_ | refine blk_alloc ?_ _)); exact BK107.out) hb)
            have n3_ := Aside0.mk (below_step (by repeat (first | (with_reducible first | exact HB.out | apply below_alloc | apply pw_below_drewN | apply below_drew1 | refine below_set ?_ GE101.out | refine below_set ?_ GE106.out | refine below_set ?_ GE107.out) | exact HB.out)) hb)
            have n4_ := Aside0.mk (hbox)
            have n5_ := Aside0.mk ((by rw [hg]; exact (below_size (by repeat (first | (with_reducible first | exact HB.out | apply below_alloc | apply pw_below_drewN | apply below_drew1 | refine below_set ?_ GE101.out | refine below_set ?_ GE106.out | refine below_set ?_ GE107.out) | exact HB.out))) : w.heap.size ≤ gb117))
            have n6_ := Aside0.mk ((by rw [hg]; exact (below_size (by repeat (first | (with_reducible first | exact HB.out | apply below_alloc | apply pw_below_drewN | apply below_drew1 | refine below_set ?_ GE101.out | refine below_set ?_ GE106.out | refine below_set ?_ GE107.out) | exact HB.out))) : w.heap.size ≤ gb117))
            have n7_ := Aside0.mk ((by rw [hg]; exact Nat.ne_of_lt (blk_lt (g := gb101) (o := .cells #[.int .u8 a5_0, .int .u8 a5_1] 27 (0, 0)) (by (with_reducible repeat (first | refine blk_drewN ?_ _ | refine blk_drew ?_ | refine blk_alloc ?_ _)); exact BK101.out)) : gb101 ≠ gb117))
            have n8_ := Aside0.mk ((by rw [hg]; exact Nat.ne_of_gt (blk_lt (g := gb101) (o := .cells #[.int .u8 a5_0, .int .u8 a5_1] 27 (0, 0)) (by (with_reducible repeat (first | refine blk_drewN ?_ _ | refine blk_drew ?_ | refine blk_alloc ?_ _)); exact BK101.out)) : gb117 ≠ gb101))
            have n9_ := Aside0.mk ((by rw [hg]; exact Nat.ne_of_lt (blk_lt (g := gb106) (o := .cells #[.int .i64 t102, .int .i64 t103] 23 (0, 0)) (by (with_reducible repeat (first | refine blk_drewN ?_ _ | refine blk_drew ?_ | refine blk_alloc ?_ _)); exact BK106.out)) : gb106 ≠ gb117))
            have n10_ := Aside0.mk ((by rw [hg]; exact Nat.ne_of_gt (blk_lt (g := gb106) (o := .cells #[.int .i64 t102, .int .i64 t103] 23 (0, 0)) (by (with_reducible repeat (first | refine blk_drewN ?_ _ | refine blk_drew ?_ | refine blk_alloc ?_ _)); exact BK106.out)) : gb117 ≠ gb106))
            have n11_ := Aside0.mk ((by rw [hg]; exact Nat.ne_of_lt (blk_lt (g := gb107) (o := .cells #[.int .i64 t104, .int .i64 t105] 23 (0, 0)) (by (with_reducible repeat (first | refine blk_drewN ?_ _ | refine blk_drew ?_ | refine blk_alloc ?_ _)); exact BK107.out)) : gb107 ≠ gb117))
            have n12_ := Aside0.mk ((by rw [hg]; exact Nat.ne_of_gt (blk_lt (g := gb107) (o := .cells #[.int .i64 t104, .int .i64 t105] 23 (0, 0)) (by (with_reducible repeat (first | refine blk_drewN ?_ _ | refine blk_drew ?_ | refine blk_alloc ?_ _)); exact BK107.out)) : gb117 ≠ gb107))
            have z_NB118_117 := fun (h0_ : up b 6 6 = true) (h1_ : up b 6 7 = true) => (show gb118 ≠ gb117 from ((by rw [hg]; exact Nat.ne_of_lt (blk_lt (g := gb118) (o := .cells #[.int .i64 0, .int .i64 0] 23 (0, 0)) (by (with_reducible repeat (first | refine blk_drewN ?_ _ | refine blk_drew ?_ | refine blk_alloc ?_ _)); exact (Q_BK118 h1_ (hoff 9 (by kernel_rfl))))) : gb118 ≠ gb117)))
            have z_NB117_118 := fun (h0_ : up b 6 6 = true) (h1_ : up b 6 7 = true) => (show gb117 ≠ gb118 from ((by rw [hg]; exact Nat.ne_of_gt (blk_lt (g := gb118) (o := .cells #[.int .i64 0, .int .i64 0] 23 (0, 0)) (by (with_reducible repeat (first | refine blk_drewN ?_ _ | refine blk_drew ?_ | refine blk_alloc ?_ _)); exact (Q_BK118 h1_ (hoff 9 (by kernel_rfl))))) : gb117 ≠ gb118)))
            have z_BK118 := fun (h0_ : b 7 = true) (h1_ : b 9 = false) => (show w38.heap[gb118]? = some (.cells #[.int .i64 0, .int .i64 0] 23 (0, 0)) from by first | exact (blk_below (g := gb118) (o := .cells #[.int .i64 0, .int .i64 0] 23 (0, 0)) (by (with_reducible repeat (first | refine blk_drewN ?_ _ | refine blk_drew ?_ | refine blk_alloc ?_ _)); exact (Q_BK118 h0_ h1_)) hb))
            clear BK101
            clear BK106
            clear BK107
            clear HB
            have BK101 := n0_
            have BK106 := n1_
            have BK107 := n2_
            have HB := n3_
            have BK117 := n4_
            have GW117 := n5_
            have GE117 := n6_
            have NB101_117 := n7_
            have NB117_101 := n8_
            have NB106_117 := n9_
            have NB117_106 := n10_
            have NB107_117 := n11_
            have NB117_107 := n12_
            clear n0_ n1_ n2_ n3_ n4_ n5_ n6_ n7_ n8_ n9_ n10_ n11_ n12_
            clear hb hbox hg
            refine hK.out _ _ ⟨gb117, gb118, (.pointer (some ⟨gb117, 0, none⟩)), m7_, (by rw [ha.out]; exact putSel_upk 6 hb_ rfl rfl rfl), (by (with_reducible repeat (first | refine blk_drewN ?_ _ | refine blk_drew ?_ | refine blk_alloc ?_ _)); exact BK101.out), (by (with_reducible repeat (first | refine blk_drewN ?_ _ | refine blk_drew ?_ | refine blk_alloc ?_ _)); exact BK106.out), (by (with_reducible repeat (first | refine blk_drewN ?_ _ | refine blk_drew ?_ | refine blk_alloc ?_ _)); exact BK107.out), (by repeat (first | (with_reducible first | exact HB.out | apply below_alloc | apply pw_below_drewN | apply below_drew1 | refine below_set ?_ GE101.out | refine below_set ?_ GE106.out | refine below_set ?_ GE107.out | refine below_set ?_ GE117.out) | exact HB.out)), z_NB118_117, z_NB117_118, fun _ _ => (by (with_reducible repeat (first | refine blk_drewN ?_ _ | refine blk_drew ?_ | refine blk_alloc ?_ _)); exact BK117.out), fun _ => GW117.out, fun _ => GE117.out, fun _ => NB101_117.out, fun _ => NB117_101.out, fun _ => NB106_117.out, fun _ => NB117_106.out, fun _ => NB107_117.out, fun _ => NB117_107.out, z_BK118, Q_GW118, Q_GE118, Q_NB101_118, Q_NB118_101, Q_NB106_118, Q_NB118_106, Q_NB107_118, Q_NB118_107, fun h0_ => absurd ((hoff 8 (by kernel_rfl)).symm.trans h0_) (by decide), fun h0_ => absurd ((hoff 9 (by kernel_rfl)).symm.trans h0_) (by decide), fun _ => rfl, Q_X7_⟩
          refine steps_cons ?_ ?_
          · rintro b a w' ⟨gb117, gb118, m6_, m7_, ha, Q_BK101, Q_BK106, Q_BK107, Q_HB, Q_NB118_117, Q_NB117_118, Q_BK117, Q_GW117, Q_GE117, Q_NB101_117, Q_NB117_101, Q_NB106_117, Q_NB117_106, Q_NB107_117, Q_NB117_107, Q_BK118, Q_GW118, Q_GE118, Q_NB101_118, Q_NB118_101, Q_NB106_118, Q_NB118_106, Q_NB107_118, Q_NB118_107, Q_BK117_e8, Q_BK118_e9, Q_X6_, Q_X7_⟩ hb_ hon hoff
            refine ⟨_, rfl, fun K hK => ?_⟩
            replace ha := Aside0.mk ha
            have BK101 := Aside0.mk Q_BK101
            have BK106 := Aside0.mk Q_BK106
            have BK107 := Aside0.mk Q_BK107
            have HB := Aside0.mk Q_HB
            refine box_step ?hg (N := 20) ?hd (cs := #[.int .i64 0, .int .i64 0]) (t := 23) ?hr ?_; (case hd => rfl); (case hg => rfl); (case hr => first | (go_simp; done) | (go_simp; rfl))
            intro gb118 hg w38 hbox hb
            have n0_ := Aside0.mk (blk_below (g := gb101) (o := .cells #[.int .u8 a5_0, .int .u8 a5_1] 27 (0, 0)) (by (with_reducible repeat (first | refine blk_drewN ?_ _ | refine blk_drew ?_ | refine blk_alloc ?_ _)); exact BK101.out) hb)
            have n1_ := Aside0.mk (blk_below (g := gb106) (o := .cells #[.int .i64 t102, .int .i64 t103] 23 (0, 0)) (by (with_reducible repeat (first | refine blk_drewN ?_ _ | refine blk_drew ?_ | refine blk_alloc ?_ _)); exact BK106.out) hb)
            have n2_ := Aside0.mk (blk_below (g := gb107) (o := .cells #[.int .i64 t104, .int .i64 t105] 23 (0, 0)) (by (with_reducible repeat (first | refine blk_drewN ?_ _ | refine blk_drew ?_ | refine blk_alloc ?_ _)); exact BK107.out) hb)
            have n3_ := Aside0.mk (below_step (by repeat (first | (with_reducible first | exact HB.out | apply below_alloc | apply pw_below_drewN | apply below_drew1 | refine below_set ?_ GE101.out | refine below_set ?_ GE106.out | refine below_set ?_ GE107.out) | exact HB.out)) hb)
            have n4_ := Aside0.mk (hbox)
            have n5_ := Aside0.mk ((by rw [hg]; exact (below_size (by repeat (first | (with_reducible first | exact HB.out | apply below_alloc | apply pw_below_drewN | apply below_drew1 | refine below_set ?_ GE101.out | refine below_set ?_ GE106.out | refine below_set ?_ GE107.out) | exact HB.out))) : w.heap.size ≤ gb118))
            have n6_ := Aside0.mk ((by rw [hg]; exact (below_size (by repeat (first | (with_reducible first | exact HB.out | apply below_alloc | apply pw_below_drewN | apply below_drew1 | refine below_set ?_ GE101.out | refine below_set ?_ GE106.out | refine below_set ?_ GE107.out) | exact HB.out))) : w.heap.size ≤ gb118))
            have n7_ := Aside0.mk ((by rw [hg]; exact Nat.ne_of_lt (blk_lt (g := gb101) (o := .cells #[.int .u8 a5_0, .int .u8 a5_1] 27 (0, 0)) (by (with_reducible repeat (first | refine blk_drewN ?_ _ | refine blk_drew ?_ | refine blk_alloc ?_ _)); exact BK101.out)) : gb101 ≠ gb118))
            have n8_ := Aside0.mk ((by rw [hg]; exact Nat.ne_of_gt (blk_lt (g := gb101) (o := .cells #[.int .u8 a5_0, .int .u8 a5_1] 27 (0, 0)) (by (with_reducible repeat (first | refine blk_drewN ?_ _ | refine blk_drew ?_ | refine blk_alloc ?_ _)); exact BK101.out)) : gb118 ≠ gb101))
            have n9_ := Aside0.mk ((by rw [hg]; exact Nat.ne_of_lt (blk_lt (g := gb106) (o := .cells #[.int .i64 t102, .int .i64 t103] 23 (0, 0)) (by (with_reducible repeat (first | refine blk_drewN ?_ _ | refine blk_drew ?_ | refine blk_alloc ?_ _)); exact BK106.out)) : gb106 ≠ gb118))
            have n10_ := Aside0.mk ((by rw [hg]; exact Nat.ne_of_gt (blk_lt (g := gb106) (o := .cells #[.int .i64 t102, .int .i64 t103] 23 (0, 0)) (by (with_reducible repeat (first | refine blk_drewN ?_ _ | refine blk_drew ?_ | refine blk_alloc ?_ _)); exact BK106.out)) : gb118 ≠ gb106))
            have n11_ := Aside0.mk ((by rw [hg]; exact Nat.ne_of_lt (blk_lt (g := gb107) (o := .cells #[.int .i64 t104, .int .i64 t105] 23 (0, 0)) (by (with_reducible repeat (first | refine blk_drewN ?_ _ | refine blk_drew ?_ | refine blk_alloc ?_ _)); exact BK107.out)) : gb107 ≠ gb118))
            have n12_ := Aside0.mk ((by rw [hg]; exact Nat.ne_of_gt (blk_lt (g := gb107) (o := .cells #[.int .i64 t104, .int .i64 t105] 23 (0, 0)) (by (with_reducible repeat (first | refine blk_drewN ?_ _ | refine blk_drew ?_ | refine blk_alloc ?_ _)); exact BK107.out)) : gb118 ≠ gb107))
            have z_NB118_117 := fun (h0_ : up b 7 6 = true) (h1_ : up b 7 7 = true) => (show gb118 ≠ gb117 from ((by rw [hg]; exact Nat.ne_of_gt (blk_lt (g := gb117) (o := .cells #[.int .i64 0, .int .i64 0] 23 (0, 0)) (by (with_reducible repeat (first | refine blk_drewN ?_ _ | refine blk_drew ?_ | refine blk_alloc ?_ _)); exact (Q_BK117 h0_ (hoff 8 (by kernel_rfl))))) : gb118 ≠ gb117)))
            have z_NB117_118 := fun (h0_ : up b 7 6 = true) (h1_ : up b 7 7 = true) => (show gb117 ≠ gb118 from ((by rw [hg]; exact Nat.ne_of_lt (blk_lt (g := gb117) (o := .cells #[.int .i64 0, .int .i64 0] 23 (0, 0)) (by (with_reducible repeat (first | refine blk_drewN ?_ _ | refine blk_drew ?_ | refine blk_alloc ?_ _)); exact (Q_BK117 h0_ (hoff 8 (by kernel_rfl))))) : gb117 ≠ gb118)))
            have z_BK117 := fun (h0_ : b 6 = true) (h1_ : b 8 = false) => (show w38.heap[gb117]? = some (.cells #[.int .i64 0, .int .i64 0] 23 (0, 0)) from by first | exact (blk_below (g := gb117) (o := .cells #[.int .i64 0, .int .i64 0] 23 (0, 0)) (by (with_reducible repeat (first | refine blk_drewN ?_ _ | refine blk_drew ?_ | refine blk_alloc ?_ _)); exact (Q_BK117 h0_ h1_)) hb))
            clear BK101
            clear BK106
            clear BK107
            clear HB
            have BK101 := n0_
            have BK106 := n1_
            have BK107 := n2_
            have HB := n3_
            have BK118 := n4_
            have GW118 := n5_
            have GE118 := n6_
            have NB101_118 := n7_
            have NB118_101 := n8_
            have NB106_118 := n9_
            have NB118_106 := n10_
            have NB107_118 := n11_
            have NB118_107 := n12_
            clear n0_ n1_ n2_ n3_ n4_ n5_ n6_ n7_ n8_ n9_ n10_ n11_ n12_
            clear hb hbox hg
            refine hK.out _ _ ⟨gb117, gb118, m6_, (.pointer (some ⟨gb118, 0, none⟩)), (by rw [ha.out]; exact putSel_upk 7 hb_ rfl rfl rfl), (by (with_reducible repeat (first | refine blk_drewN ?_ _ | refine blk_drew ?_ | refine blk_alloc ?_ _)); exact BK101.out), (by (with_reducible repeat (first | refine blk_drewN ?_ _ | refine blk_drew ?_ | refine blk_alloc ?_ _)); exact BK106.out), (by (with_reducible repeat (first | refine blk_drewN ?_ _ | refine blk_drew ?_ | refine blk_alloc ?_ _)); exact BK107.out), (by repeat (first | (with_reducible first | exact HB.out | apply below_alloc | apply pw_below_drewN | apply below_drew1 | refine below_set ?_ GE101.out | refine below_set ?_ GE106.out | refine below_set ?_ GE107.out | refine below_set ?_ GE118.out) | exact HB.out)), z_NB118_117, z_NB117_118, z_BK117, Q_GW117, Q_GE117, Q_NB101_117, Q_NB117_101, Q_NB106_117, Q_NB117_106, Q_NB107_117, Q_NB117_107, fun _ _ => (by (with_reducible repeat (first | refine blk_drewN ?_ _ | refine blk_drew ?_ | refine blk_alloc ?_ _)); exact BK118.out), fun _ => GW118.out, fun _ => GE118.out, fun _ => NB101_118.out, fun _ => NB118_101.out, fun _ => NB106_118.out, fun _ => NB118_106.out, fun _ => NB107_118.out, fun _ => NB118_107.out, fun h0_ => absurd ((hoff 8 (by kernel_rfl)).symm.trans h0_) (by decide), fun h0_ => absurd ((hoff 9 (by kernel_rfl)).symm.trans h0_) (by decide), Q_X6_, fun _ => rfl⟩
          refine steps_cons ?_ ?_
          · rintro b a w' ⟨gb117, gb118, m6_, m7_, ha, Q_BK101, Q_BK106, Q_BK107, Q_HB, Q_NB118_117, Q_NB117_118, Q_BK117, Q_GW117, Q_GE117, Q_NB101_117, Q_NB117_101, Q_NB106_117, Q_NB117_106, Q_NB107_117, Q_NB117_107, Q_BK118, Q_GW118, Q_GE118, Q_NB101_118, Q_NB118_101, Q_NB106_118, Q_NB118_106, Q_NB107_118, Q_NB118_107, Q_BK117_e8, Q_BK118_e9, Q_X6_, Q_X7_⟩ hb_ hon hoff
            refine ⟨_, rfl, fun K hK => ?_⟩
            have e19 : a.tmps[19]? = some (m6_) := by rw [ha]; exact putSel_on (e := (6, 19, m6_)) 6 rfl rfl (hon 6 (by kernel_rfl)) rfl
            rw [Q_X6_ (hon 6 (by kernel_rfl))] at e19
            have e47 : a.tmps[47]? = some (.agg #[.int .i64 t113, .int .i64 t114]) := by rw [ha]; exact putSel_on (e := (2, 47, .agg #[.int .i64 t113, .int .i64 t114])) 2 rfl rfl (hon 2 (by kernel_rfl)) rfl
            replace ha := Aside0.mk ha
            have BK101 := Aside0.mk Q_BK101
            have BK106 := Aside0.mk Q_BK106
            have BK107 := Aside0.mk Q_BK107
            have HB := Aside0.mk Q_HB
            have NB118_117 := Aside0.mk (Q_NB118_117 (hon 6 (by kernel_rfl)) (hon 7 (by kernel_rfl)))
            have NB117_118 := Aside0.mk (Q_NB117_118 (hon 6 (by kernel_rfl)) (hon 7 (by kernel_rfl)))
            have BK117 := Aside0.mk (Q_BK117 (hon 6 (by kernel_rfl)) hb_)
            have GW117 := Aside0.mk (Q_GW117 (hon 6 (by kernel_rfl)))
            have GE117 := Aside0.mk (Q_GE117 (hon 6 (by kernel_rfl)))
            have NB101_117 := Aside0.mk (Q_NB101_117 (hon 6 (by kernel_rfl)))
            have NB117_101 := Aside0.mk (Q_NB117_101 (hon 6 (by kernel_rfl)))
            have NB106_117 := Aside0.mk (Q_NB106_117 (hon 6 (by kernel_rfl)))
            have NB117_106 := Aside0.mk (Q_NB117_106 (hon 6 (by kernel_rfl)))
            have NB107_117 := Aside0.mk (Q_NB107_117 (hon 6 (by kernel_rfl)))
            have NB117_107 := Aside0.mk (Q_NB117_107 (hon 6 (by kernel_rfl)))
            have BK118 := Aside0.mk (Q_BK118 (hon 7 (by kernel_rfl)) (hoff 9 (by kernel_rfl)))
            have GW118 := Aside0.mk (Q_GW118 (hon 7 (by kernel_rfl)))
            have GE118 := Aside0.mk (Q_GE118 (hon 7 (by kernel_rfl)))
            have NB101_118 := Aside0.mk (Q_NB101_118 (hon 7 (by kernel_rfl)))
            have NB118_101 := Aside0.mk (Q_NB118_101 (hon 7 (by kernel_rfl)))
            have NB106_118 := Aside0.mk (Q_NB106_118 (hon 7 (by kernel_rfl)))
            have NB118_106 := Aside0.mk (Q_NB118_106 (hon 7 (by kernel_rfl)))
            have NB107_118 := Aside0.mk (Q_NB107_118 (hon 7 (by kernel_rfl)))
            have NB118_107 := Aside0.mk (Q_NB118_107 (hon 7 (by kernel_rfl)))
            have hs43 : w'.cell? ⟨gb117, 0, none⟩ = some (.int .i64 0) := (blk_cell BK117.out 0).trans rfl
            have hfs43 := blk_frozen BK117.out 0
            have hns43_0 := NB101_117.out
            have hns43_1 := NB106_117.out
            have hns43_2 := NB107_117.out
            have hns43_4 := NB118_117.out
            have hms43_0 := NB117_101.out
            have hms43_1 := NB117_106.out
            have hms43_2 := NB117_107.out
            have hms43_4 := NB117_118.out
            have hs44 : w'.cell? ⟨gb117, 1, none⟩ = some (.int .i64 0) := (blk_cell BK117.out 1).trans rfl
            have hfs44 := blk_frozen BK117.out 1
            have hns44_0 := NB101_117.out
            have hns44_1 := NB106_117.out
            have hns44_2 := NB107_117.out
            have hns44_4 := NB118_117.out
            have hms44_0 := NB117_101.out
            have hms44_1 := NB117_106.out
            have hms44_2 := NB117_107.out
            have hms44_4 := NB117_118.out
            refine skip_ (w1 := ?_) (by rfl) rfl ?_ ?_
            rotate_left
            · go_simp
              rfl
            refine hK.out _ _ ⟨gb117, gb118, m6_, m7_, (by rw [ha.out]; exact putSel_none (v := undef) rfl), (by (with_reducible repeat (first | refine blk_drewN ?_ _ | refine blk_drew ?_ | refine blk_alloc ?_ _)); refine blk_far ?_ NB101_117.out _; (with_reducible repeat (first | refine blk_drewN ?_ _ | refine blk_drew ?_ | refine blk_alloc ?_ _)); refine blk_far ?_ NB101_117.out _; (with_reducible repeat (first | refine blk_drewN ?_ _ | refine blk_drew ?_ | refine blk_alloc ?_ _)); exact BK101.out), (by (with_reducible repeat (first | refine blk_drewN ?_ _ | refine blk_drew ?_ | refine blk_alloc ?_ _)); refine blk_far ?_ NB106_117.out _; (with_reducible repeat (first | refine blk_drewN ?_ _ | refine blk_drew ?_ | refine blk_alloc ?_ _)); refine blk_far ?_ NB106_117.out _; (with_reducible repeat (first | refine blk_drewN ?_ _ | refine blk_drew ?_ | refine blk_alloc ?_ _)); exact BK106.out), (by (with_reducible repeat (first | refine blk_drewN ?_ _ | refine blk_drew ?_ | refine blk_alloc ?_ _)); refine blk_far ?_ NB107_117.out _; (with_reducible repeat (first | refine blk_drewN ?_ _ | refine blk_drew ?_ | refine blk_alloc ?_ _)); refine blk_far ?_ NB107_117.out _; (with_reducible repeat (first | refine blk_drewN ?_ _ | refine blk_drew ?_ | refine blk_alloc ?_ _)); exact BK107.out), (by repeat (first | (with_reducible first | exact HB.out | apply below_alloc | apply pw_below_drewN | apply below_drew1 | refine below_set ?_ GE101.out | refine below_set ?_ GE106.out | refine below_set ?_ GE107.out | refine below_set ?_ GE117.out | refine below_set ?_ GE118.out) | exact HB.out)), fun _ _ => NB118_117.out, fun _ _ => NB117_118.out, fun _ h1_ => absurd ((up_self b 8).symm.trans h1_) (by decide), fun _ => GW117.out, fun _ => GE117.out, fun _ => NB101_117.out, fun _ => NB117_101.out, fun _ => NB106_117.out, fun _ => NB117_106.out, fun _ => NB107_117.out, fun _ => NB117_107.out, fun _ _ => (by (with_reducible repeat (first | refine blk_drewN ?_ _ | refine blk_drew ?_ | refine blk_alloc ?_ _)); refine blk_far ?_ NB118_117.out _; (with_reducible repeat (first | refine blk_drewN ?_ _ | refine blk_drew ?_ | refine blk_alloc ?_ _)); refine blk_far ?_ NB118_117.out _; (with_reducible repeat (first | refine blk_drewN ?_ _ | refine blk_drew ?_ | refine blk_alloc ?_ _)); exact BK118.out), fun _ => GW118.out, fun _ => GE118.out, fun _ => NB101_118.out, fun _ => NB118_101.out, fun _ => NB106_118.out, fun _ => NB118_106.out, fun _ => NB107_118.out, fun _ => NB118_107.out, fun _ => (by (with_reducible repeat (first | refine blk_drewN ?_ _ | refine blk_drew ?_ | refine blk_alloc ?_ _)); refine blk_put (cs := #[.int .i64 t113, .int .i64 0]) ?_ 1 _ rfl; (with_reducible repeat (first | refine blk_drewN ?_ _ | refine blk_drew ?_ | refine blk_alloc ?_ _)); refine blk_put (cs := #[.int .i64 0, .int .i64 0]) ?_ 0 _ rfl; (with_reducible repeat (first | refine blk_drewN ?_ _ | refine blk_drew ?_ | refine blk_alloc ?_ _)); exact BK117.out), fun h0_ => absurd ((hoff 9 (by kernel_rfl)).symm.trans h0_) (by decide), Q_X6_, Q_X7_⟩
          refine steps_cons ?_ ?_
          · rintro b a w' ⟨gb117, gb118, m6_, m7_, ha, Q_BK101, Q_BK106, Q_BK107, Q_HB, Q_NB118_117, Q_NB117_118, Q_BK117, Q_GW117, Q_GE117, Q_NB101_117, Q_NB117_101, Q_NB106_117, Q_NB117_106, Q_NB107_117, Q_NB117_107, Q_BK118, Q_GW118, Q_GE118, Q_NB101_118, Q_NB118_101, Q_NB106_118, Q_NB118_106, Q_NB107_118, Q_NB118_107, Q_BK117_e8, Q_BK118_e9, Q_X6_, Q_X7_⟩ hb_ hon hoff
            refine ⟨_, rfl, fun K hK => ?_⟩
            have e20 : a.tmps[20]? = some (m7_) := by rw [ha]; exact putSel_on (e := (7, 20, m7_)) 7 rfl rfl (hon 7 (by kernel_rfl)) rfl
            rw [Q_X7_ (hon 7 (by kernel_rfl))] at e20
            have e50 : a.tmps[50]? = some (.agg #[.int .i64 t115, .int .i64 t116]) := by rw [ha]; exact putSel_on (e := (5, 50, .agg #[.int .i64 t115, .int .i64 t116])) 5 rfl rfl (hon 5 (by kernel_rfl)) rfl
            replace ha := Aside0.mk ha
            have BK101 := Aside0.mk Q_BK101
            have BK106 := Aside0.mk Q_BK106
            have BK107 := Aside0.mk Q_BK107
            have HB := Aside0.mk Q_HB
            have NB118_117 := Aside0.mk (Q_NB118_117 (hon 6 (by kernel_rfl)) (hon 7 (by kernel_rfl)))
            have NB117_118 := Aside0.mk (Q_NB117_118 (hon 6 (by kernel_rfl)) (hon 7 (by kernel_rfl)))
            have GW117 := Aside0.mk (Q_GW117 (hon 6 (by kernel_rfl)))
            have GE117 := Aside0.mk (Q_GE117 (hon 6 (by kernel_rfl)))
            have NB101_117 := Aside0.mk (Q_NB101_117 (hon 6 (by kernel_rfl)))
            have NB117_101 := Aside0.mk (Q_NB117_101 (hon 6 (by kernel_rfl)))
            have NB106_117 := Aside0.mk (Q_NB106_117 (hon 6 (by kernel_rfl)))
            have NB117_106 := Aside0.mk (Q_NB117_106 (hon 6 (by kernel_rfl)))
            have NB107_117 := Aside0.mk (Q_NB107_117 (hon 6 (by kernel_rfl)))
            have NB117_107 := Aside0.mk (Q_NB117_107 (hon 6 (by kernel_rfl)))
            have BK118 := Aside0.mk (Q_BK118 (hon 7 (by kernel_rfl)) hb_)
            have GW118 := Aside0.mk (Q_GW118 (hon 7 (by kernel_rfl)))
            have GE118 := Aside0.mk (Q_GE118 (hon 7 (by kernel_rfl)))
            have NB101_118 := Aside0.mk (Q_NB101_118 (hon 7 (by kernel_rfl)))
            have NB118_101 := Aside0.mk (Q_NB118_101 (hon 7 (by kernel_rfl)))
            have NB106_118 := Aside0.mk (Q_NB106_118 (hon 7 (by kernel_rfl)))
            have NB118_106 := Aside0.mk (Q_NB118_106 (hon 7 (by kernel_rfl)))
            have NB107_118 := Aside0.mk (Q_NB107_118 (hon 7 (by kernel_rfl)))
            have NB118_107 := Aside0.mk (Q_NB118_107 (hon 7 (by kernel_rfl)))
            have BK117 := Aside0.mk (Q_BK117_e8 (hon 8 (by kernel_rfl)))
            have hs45 : w'.cell? ⟨gb118, 0, none⟩ = some (.int .i64 0) := (blk_cell BK118.out 0).trans rfl
            have hfs45 := blk_frozen BK118.out 0
            have hns45_0 := NB101_118.out
            have hns45_1 := NB106_118.out
            have hns45_2 := NB107_118.out
            have hns45_3 := NB117_118.out
            have hms45_0 := NB118_101.out
            have hms45_1 := NB118_106.out
            have hms45_2 := NB118_107.out
            have hms45_3 := NB118_117.out
            have hs46 : w'.cell? ⟨gb118, 1, none⟩ = some (.int .i64 0) := (blk_cell BK118.out 1).trans rfl
            have hfs46 := blk_frozen BK118.out 1
            have hns46_0 := NB101_118.out
            have hns46_1 := NB106_118.out
            have hns46_2 := NB107_118.out
            have hns46_3 := NB117_118.out
            have hms46_0 := NB118_101.out
            have hms46_1 := NB118_106.out
            have hms46_2 := NB118_107.out
            have hms46_3 := NB118_117.out
            refine skip_ (w1 := ?_) (by rfl) rfl ?_ ?_
            rotate_left
            · go_simp
              rfl
            refine hK.out _ _ ⟨gb117, gb118, m6_, m7_, (by rw [ha.out]; exact putSel_none (v := undef) rfl), (by (with_reducible repeat (first | refine blk_drewN ?_ _ | refine blk_drew ?_ | refine blk_alloc ?_ _)); refine blk_far ?_ NB101_118.out _; (with_reducible repeat (first | refine blk_drewN ?_ _ | refine blk_drew ?_ | refine blk_alloc ?_ _)); refine blk_far ?_ NB101_118.out _; (with_reducible repeat (first | refine blk_drewN ?_ _ | refine blk_drew ?_ | refine blk_alloc ?_ _)); exact BK101.out), (by (with_reducible repeat (first | refine blk_drewN ?_ _ | refine blk_drew ?_ | refine blk_alloc ?_ _)); refine blk_far ?_ NB106_118.out _; (with_reducible repeat (first | refine blk_drewN ?_ _ | refine blk_drew ?_ | refine blk_alloc ?_ _)); refine blk_far ?_ NB106_118.out _; (with_reducible repeat (first | refine blk_drewN ?_ _ | refine blk_drew ?_ | refine blk_alloc ?_ _)); exact BK106.out), (by (with_reducible repeat (first | refine blk_drewN ?_ _ | refine blk_drew ?_ | refine blk_alloc ?_ _)); refine blk_far ?_ NB107_118.out _; (with_reducible repeat (first | refine blk_drewN ?_ _ | refine blk_drew ?_ | refine blk_alloc ?_ _)); refine blk_far ?_ NB107_118.out _; (with_reducible repeat (first | refine blk_drewN ?_ _ | refine blk_drew ?_ | refine blk_alloc ?_ _)); exact BK107.out), (by repeat (first | (with_reducible first | exact HB.out | apply below_alloc | apply pw_below_drewN | apply below_drew1 | refine below_set ?_ GE101.out | refine below_set ?_ GE106.out | refine below_set ?_ GE107.out | refine below_set ?_ GE117.out | refine below_set ?_ GE118.out) | exact HB.out)), fun _ _ => NB118_117.out, fun _ _ => NB117_118.out, fun _ h1_ => absurd ((hon 8 (by kernel_rfl)).symm.trans h1_) (by decide), fun _ => GW117.out, fun _ => GE117.out, fun _ => NB101_117.out, fun _ => NB117_101.out, fun _ => NB106_117.out, fun _ => NB117_106.out, fun _ => NB107_117.out, fun _ => NB117_107.out, fun _ h1_ => absurd ((up_self b 9).symm.trans h1_) (by decide), fun _ => GW118.out, fun _ => GE118.out, fun _ => NB101_118.out, fun _ => NB118_101.out, fun _ => NB106_118.out, fun _ => NB118_106.out, fun _ => NB107_118.out, fun _ => NB118_107.out, fun _ => (by (with_reducible repeat (first | refine blk_drewN ?_ _ | refine blk_drew ?_ | refine blk_alloc ?_ _)); refine blk_far ?_ NB117_118.out _; (with_reducible repeat (first | refine blk_drewN ?_ _ | refine blk_drew ?_ | refine blk_alloc ?_ _)); refine blk_far ?_ NB117_118.out _; (with_reducible repeat (first | refine blk_drewN ?_ _ | refine blk_drew ?_ | refine blk_alloc ?_ _)); exact BK117.out), fun _ => (by (with_reducible repeat (first | refine blk_drewN ?_ _ | refine blk_drew ?_ | refine blk_alloc ?_ _)); refine blk_put (cs := #[.int .i64 t115, .int .i64 0]) ?_ 1 _ rfl; (with_reducible repeat (first | refine blk_drewN ?_ _ | refine blk_drew ?_ | refine blk_alloc ?_ _)); refine blk_put (cs := #[.int .i64 0, .int .i64 0]) ?_ 0 _ rfl; (with_reducible repeat (first | refine blk_drewN ?_ _ | refine blk_drew ?_ | refine blk_alloc ?_ _)); exact BK118.out), Q_X6_, Q_X7_⟩
          exact steps_nil
        rintro b a w46 hall ⟨gb117, gb118, m6_, m7_, ha, Q_BK101, Q_BK106, Q_BK107, Q_HB, Q_NB118_117, Q_NB117_118, Q_BK117, Q_GW117, Q_GE117, Q_NB101_117, Q_NB117_101, Q_NB106_117, Q_NB117_106, Q_NB107_117, Q_NB117_107, Q_BK118, Q_GW118, Q_GE118, Q_NB101_118, Q_NB118_101, Q_NB106_118, Q_NB118_106, Q_NB107_118, Q_NB118_107, Q_BK117_e8, Q_BK118_e9, Q_X6_, Q_X7_⟩
        clear BK101 BK106 BK107 HB
        have hb0_ := hall 0 (by kernel_rfl)
        have hb1_ := hall 1 (by kernel_rfl)
        have hb2_ := hall 2 (by kernel_rfl)
        have hb3_ := hall 3 (by kernel_rfl)
        have hb4_ := hall 4 (by kernel_rfl)
        have hb5_ := hall 5 (by kernel_rfl)
        have hb6_ := hall 6 (by kernel_rfl)
        have hb7_ := hall 7 (by kernel_rfl)
        have hb8_ := hall 8 (by kernel_rfl)
        have hb9_ := hall 9 (by kernel_rfl)
        subst ha
        obtain rfl := Q_X6_ hb6_
        obtain rfl := Q_X7_ hb7_
        simp only [putSel, hb0_, hb1_, hb2_, hb3_, hb4_, hb5_, hb6_, hb7_, hb8_, hb9_, if_true, Act.put, List.setIfInBounds_toArray, List.set_cons_zero, List.set_cons_succ]
        have BK101 := Aside0.mk Q_BK101
        clear Q_BK101
        have BK106 := Aside0.mk Q_BK106
        clear Q_BK106
        have BK107 := Aside0.mk Q_BK107
        clear Q_BK107
        have HB := Aside0.mk Q_HB
        clear Q_HB
        have NB118_117 := Aside0.mk (Q_NB118_117 hb6_ hb7_)
        clear Q_NB118_117
        have NB117_118 := Aside0.mk (Q_NB117_118 hb6_ hb7_)
        clear Q_NB117_118
        clear Q_BK117
        have GW117 := Aside0.mk (Q_GW117 hb6_)
        clear Q_GW117
        have GE117 := Aside0.mk (Q_GE117 hb6_)
        clear Q_GE117
        have NB101_117 := Aside0.mk (Q_NB101_117 hb6_)
        clear Q_NB101_117
        have NB117_101 := Aside0.mk (Q_NB117_101 hb6_)
        clear Q_NB117_101
        have NB106_117 := Aside0.mk (Q_NB106_117 hb6_)
        clear Q_NB106_117
        have NB117_106 := Aside0.mk (Q_NB117_106 hb6_)
        clear Q_NB117_106
        have NB107_117 := Aside0.mk (Q_NB107_117 hb6_)
        clear Q_NB107_117
        have NB117_107 := Aside0.mk (Q_NB117_107 hb6_)
        clear Q_NB117_107
        clear Q_BK118
        have GW118 := Aside0.mk (Q_GW118 hb7_)
        clear Q_GW118
        have GE118 := Aside0.mk (Q_GE118 hb7_)
        clear Q_GE118
        have NB101_118 := Aside0.mk (Q_NB101_118 hb7_)
        clear Q_NB101_118
        have NB118_101 := Aside0.mk (Q_NB118_101 hb7_)
        clear Q_NB118_101
        have NB106_118 := Aside0.mk (Q_NB106_118 hb7_)
        clear Q_NB106_118
        have NB118_106 := Aside0.mk (Q_NB118_106 hb7_)
        clear Q_NB118_106
        have NB107_118 := Aside0.mk (Q_NB107_118 hb7_)
        clear Q_NB107_118
        have NB118_107 := Aside0.mk (Q_NB118_107 hb7_)
        clear Q_NB118_107
        have BK117 := Aside0.mk (Q_BK117_e8 hb8_)
        clear Q_BK117_e8
        have BK118 := Aside0.mk (Q_BK118_e9 hb9_)
        clear Q_BK118_e9
        clear hall hb0_ hb1_ hb2_ hb3_ hb4_ hb5_ hb6_ hb7_ hb8_ hb9_
        go_upto_region 5 with (fail)
        go_cut [120] (fun v120 wc => ∃ (kq : Nat) (x120_35 : Bool), v120 = .bool x120_35 ∧ Aside0 (timeboundlaw07_IntervalTight.j1 kq a0 a6 a7 x120_35 t102 t103 t104 t105 = some r) ∧ Aside0 (kq ≤ kj10) ∧ Aside0 (wc.heap[gb101]? = some (.cells #[.int .u8 a5_0, .int .u8 a5_1] 27 (0, 0))) ∧ Aside0 (wc.heap[gb106]? = some (.cells #[.int .i64 t102, .int .i64 t103] 23 (0, 0))) ∧ Aside0 (wc.heap[gb107]? = some (.cells #[.int .i64 t104, .int .i64 t105] 23 (0, 0))) ∧ Aside0 (wc.heap[gb117]? = some (.cells #[.int .i64 t113, .int .i64 t114] 23 (0, 0))) ∧ Aside0 (wc.heap[gb118]? = some (.cells #[.int .i64 t115, .int .i64 t116] 23 (0, 0))) ∧ Aside0 (Below w.heap.size w wc))
        case first =>
          have H := HC36.out
          clear HC36
          by_cases c47 : (wrap64 (t102 + t104)) ≥ (-2147483648)
          · rw [if_pos c47] at H
            have c47b0 : decide ((-2147483648) ≤ (wrap64 (t102 + t104))) = true := decide_eq_true c47
            clear c47
            (first | rw [c47b0] | (simp only [i64_w, i32_w]; rw [c47b0]) | skip)
            by_cases c48 : (wrap64 (t103 + t105)) < 2147483648
            · rw [if_pos c48] at H
              have c48b0 : decide ((wrap64 (t103 + t105)) < 2147483648) = true := decide_eq_true c48
              clear c48
              by_cases c49 : t113 = (wrap64 (t102 + t104))
              · rw [if_pos c49] at H
                have c49b0 : (t113 == (wrap64 (t102 + t104))) = true := beq_iff_eq.mpr c49
                have c49b1 : (t113 != (wrap64 (t102 + t104))) = false := bne_eq_false_iff_eq.mpr c49
                clear c49
                by_cases c50 : t114 = (wrap64 (t103 + t105))
                · rw [if_pos c50] at H
                  have c50b0 : (t114 == (wrap64 (t103 + t105))) = true := beq_iff_eq.mpr c50
                  have c50b1 : (t114 != (wrap64 (t103 + t105))) = false := bne_eq_false_iff_eq.mpr c50
                  clear c50
                  by_cases c51 : (wrap64 (t102 - t105)) ≥ (-2147483648)
                  · rw [if_pos c51] at H
                    have c51b0 : decide ((-2147483648) ≤ (wrap64 (t102 - t105))) = true := decide_eq_true c51
                    clear c51
                    by_cases c52 : (wrap64 (t103 - t104)) < 2147483648
                    · rw [if_pos c52] at H
                      have c52b0 : decide ((wrap64 (t103 - t104)) < 2147483648) = true := decide_eq_true c52
                      clear c52
                      by_cases c53 : t115 = (wrap64 (t102 - t105))
                      · rw [if_pos c53] at H
                        have c53b0 : (t115 == (wrap64 (t102 - t105))) = true := beq_iff_eq.mpr c53
                        have c53b1 : (t115 != (wrap64 (t102 - t105))) = false := bne_eq_false_iff_eq.mpr c53
                        clear c53
                        have H' := Aside0.mk H
                        clear H
                        have hnb54 := NB106_101.out
                        have hnc54 := NB101_106.out
                        have hnb55 := NB106_107.out
                        have hnc55 := NB107_106.out
                        have hnb56 := NB106_117.out
                        have hnc56 := NB117_106.out
                        have hnb57 := NB106_118.out
                        have hnc57 := NB118_106.out
                        have hcz58_0 : w46.cell? ⟨gb106, 0, none⟩ = some (.int .i64 t102) := (blk_cell BK106.out 0).trans rfl
                        have hcz58_1 : w46.cell? ⟨gb106, 1, none⟩ = some (.int .i64 t103) := (blk_cell BK106.out 1).trans rfl
                        have hfz58_0 := blk_frozen BK106.out 0
                        have hfz58_1 := blk_frozen BK106.out 1
                        have hnb59 := NB107_101.out
                        have hnc59 := NB101_107.out
                        have hnb60 := NB107_117.out
                        have hnc60 := NB117_107.out
                        have hnb61 := NB107_118.out
                        have hnc61 := NB118_107.out
                        have hcz62_0 : w46.cell? ⟨gb107, 0, none⟩ = some (.int .i64 t104) := (blk_cell BK107.out 0).trans rfl
                        have hcz62_1 : w46.cell? ⟨gb107, 1, none⟩ = some (.int .i64 t105) := (blk_cell BK107.out 1).trans rfl
                        have hfz62_0 := blk_frozen BK107.out 0
                        have hfz62_1 := blk_frozen BK107.out 1
                        have hnb63 := NB117_101.out
                        have hnc63 := NB101_117.out
                        have hnb64 := NB117_118.out
                        have hnc64 := NB118_117.out
                        have hcz65_0 : w46.cell? ⟨gb117, 0, none⟩ = some (.int .i64 t113) := (blk_cell BK117.out 0).trans rfl
                        have hcz65_1 : w46.cell? ⟨gb117, 1, none⟩ = some (.int .i64 t114) := (blk_cell BK117.out 1).trans rfl
                        have hfz65_0 := blk_frozen BK117.out 0
                        have hfz65_1 := blk_frozen BK117.out 1
                        have hnb66 := NB118_101.out
                        have hnc66 := NB101_118.out
                        have hcz67_0 : w46.cell? ⟨gb118, 0, none⟩ = some (.int .i64 t115) := (blk_cell BK118.out 0).trans rfl
                        have hcz67_1 : w46.cell? ⟨gb118, 1, none⟩ = some (.int .i64 t116) := (blk_cell BK118.out 1).trans rfl
                        have hfz67_0 := blk_frozen BK118.out 0
                        have hfz67_1 := blk_frozen BK118.out 1
                        refine l_start ?_
                        repeat' (first
                          | (refine l_off (a' := ?_) (by rfl) ?_ ?_; rotate_left; (focus (simp only [Act.put, List.setIfInBounds_toArray, List.set_cons_zero, List.set_cons_succ, i64_w, i32_w]; rfl)))
                          | (refine l_run (v := ?_) (a' := ?_) (by rfl) ?_ ?_ ?_; rotate_left 2; (focus (go_simp; with_reducible rfl)); (focus (simp only [Act.put, List.setIfInBounds_toArray, List.set_cons_zero, List.set_cons_succ, i64_w, i32_w]; rfl))))
                        refine l_done ?_
                        go_wp2
                        go_meet
                        case rel => exact ⟨_, ((t116 != (wrap64 (t103 - t104)))), (by first | rfl | (simp; done) | (simp [*]; done)), H', ⟨by have := HJ10.out; first | omega | exact Nat.le_refl _⟩, ⟨by (with_reducible repeat (first | refine blk_drewN ?_ _ | refine blk_drew ?_ | refine blk_alloc ?_ _)); exact BK101.out⟩, ⟨by (with_reducible repeat (first | refine blk_drewN ?_ _ | refine blk_drew ?_ | refine blk_alloc ?_ _)); exact BK106.out⟩, ⟨by (with_reducible repeat (first | refine blk_drewN ?_ _ | refine blk_drew ?_ | refine blk_alloc ?_ _)); exact BK107.out⟩, ⟨by (with_reducible repeat (first | refine blk_drewN ?_ _ | refine blk_drew ?_ | refine blk_alloc ?_ _)); exact BK117.out⟩, ⟨by (with_reducible repeat (first | refine blk_drewN ?_ _ | refine blk_drew ?_ | refine blk_alloc ?_ _)); exact BK118.out⟩, ⟨by repeat (first | (with_reducible first | exact HB.out | apply below_alloc | apply pw_below_drewN | apply below_drew1 | refine below_set ?_ GE101.out | refine below_set ?_ GE106.out | refine below_set ?_ GE107.out | refine below_set ?_ GE117.out | refine below_set ?_ GE118.out) | exact HB.out)⟩⟩
                      · rw [if_neg c53] at H
                        exact absurd H (by simp)
                    · rw [if_neg c52] at H
                      have c52b0 : decide ((wrap64 (t103 - t104)) < 2147483648) = false := decide_eq_false c52
                      clear c52
                      have H' := Aside0.mk H
                      clear H
                      have hnb68 := NB106_101.out
                      have hnc68 := NB101_106.out
                      have hnb69 := NB106_107.out
                      have hnc69 := NB107_106.out
                      have hnb70 := NB106_117.out
                      have hnc70 := NB117_106.out
                      have hnb71 := NB106_118.out
                      have hnc71 := NB118_106.out
                      have hcz72_0 : w46.cell? ⟨gb106, 0, none⟩ = some (.int .i64 t102) := (blk_cell BK106.out 0).trans rfl
                      have hcz72_1 : w46.cell? ⟨gb106, 1, none⟩ = some (.int .i64 t103) := (blk_cell BK106.out 1).trans rfl
                      have hfz72_0 := blk_frozen BK106.out 0
                      have hfz72_1 := blk_frozen BK106.out 1
                      have hnb73 := NB107_101.out
                      have hnc73 := NB101_107.out
                      have hnb74 := NB107_117.out
                      have hnc74 := NB117_107.out
                      have hnb75 := NB107_118.out
                      have hnc75 := NB118_107.out
                      have hcz76_0 : w46.cell? ⟨gb107, 0, none⟩ = some (.int .i64 t104) := (blk_cell BK107.out 0).trans rfl
                      have hcz76_1 : w46.cell? ⟨gb107, 1, none⟩ = some (.int .i64 t105) := (blk_cell BK107.out 1).trans rfl
                      have hfz76_0 := blk_frozen BK107.out 0
                      have hfz76_1 := blk_frozen BK107.out 1
                      have hnb77 := NB117_101.out
                      have hnc77 := NB101_117.out
                      have hnb78 := NB117_118.out
                      have hnc78 := NB118_117.out
                      have hcz79_0 : w46.cell? ⟨gb117, 0, none⟩ = some (.int .i64 t113) := (blk_cell BK117.out 0).trans rfl
                      have hcz79_1 : w46.cell? ⟨gb117, 1, none⟩ = some (.int .i64 t114) := (blk_cell BK117.out 1).trans rfl
                      have hfz79_0 := blk_frozen BK117.out 0
                      have hfz79_1 := blk_frozen BK117.out 1
                      refine l_start ?_
                      repeat' (first
                        | (refine l_off (a' := ?_) (by rfl) ?_ ?_; rotate_left; (focus (simp only [Act.put, List.setIfInBounds_toArray, List.set_cons_zero, List.set_cons_succ, i64_w, i32_w]; rfl)))
                        | (refine l_run (v := ?_) (a' := ?_) (by rfl) ?_ ?_ ?_; rotate_left 2; (focus (go_simp; with_reducible rfl)); (focus (simp only [Act.put, List.setIfInBounds_toArray, List.set_cons_zero, List.set_cons_succ, i64_w, i32_w]; rfl))))
                      refine l_done ?_
                      go_wp2
                      go_meet
                      case rel => exact ⟨_, (false), (by first | rfl | (simp; done) | (simp [*]; done)), H', ⟨by have := HJ10.out; first | omega | exact Nat.le_refl _⟩, ⟨by (with_reducible repeat (first | refine blk_drewN ?_ _ | refine blk_drew ?_ | refine blk_alloc ?_ _)); exact BK101.out⟩, ⟨by (with_reducible repeat (first | refine blk_drewN ?_ _ | refine blk_drew ?_ | refine blk_alloc ?_ _)); exact BK106.out⟩, ⟨by (with_reducible repeat (first | refine blk_drewN ?_ _ | refine blk_drew ?_ | refine blk_alloc ?_ _)); exact BK107.out⟩, ⟨by (with_reducible repeat (first | refine blk_drewN ?_ _ | refine blk_drew ?_ | refine blk_alloc ?_ _)); exact BK117.out⟩, ⟨by (with_reducible repeat (first | refine blk_drewN ?_ _ | refine blk_drew ?_ | refine blk_alloc ?_ _)); exact BK118.out⟩, ⟨by repeat (first | (with_reducible first | exact HB.out | apply below_alloc | apply pw_below_drewN | apply below_drew1 | refine below_set ?_ GE101.out | refine below_set ?_ GE106.out | refine below_set ?_ GE107.out | refine below_set ?_ GE117.out | refine below_set ?_ GE118.out) | exact HB.out)⟩⟩
                  · rw [if_neg c51] at H
                    have c51b0 : decide ((-2147483648) ≤ (wrap64 (t102 - t105))) = false := decide_eq_false c51
                    clear c51
                    have H' := Aside0.mk H
                    clear H
                    have hnb80 := NB106_101.out
                    have hnc80 := NB101_106.out
                    have hnb81 := NB106_107.out
                    have hnc81 := NB107_106.out
                    have hnb82 := NB106_117.out
                    have hnc82 := NB117_106.out
                    have hnb83 := NB106_118.out
                    have hnc83 := NB118_106.out
                    have hcz84_0 : w46.cell? ⟨gb106, 0, none⟩ = some (.int .i64 t102) := (blk_cell BK106.out 0).trans rfl
                    have hcz84_1 : w46.cell? ⟨gb106, 1, none⟩ = some (.int .i64 t103) := (blk_cell BK106.out 1).trans rfl
                    have hfz84_0 := blk_frozen BK106.out 0
                    have hfz84_1 := blk_frozen BK106.out 1
                    have hnb85 := NB107_101.out
                    have hnc85 := NB101_107.out
                    have hnb86 := NB107_117.out
                    have hnc86 := NB117_107.out
                    have hnb87 := NB107_118.out
                    have hnc87 := NB118_107.out
                    have hcz88_0 : w46.cell? ⟨gb107, 0, none⟩ = some (.int .i64 t104) := (blk_cell BK107.out 0).trans rfl
                    have hcz88_1 : w46.cell? ⟨gb107, 1, none⟩ = some (.int .i64 t105) := (blk_cell BK107.out 1).trans rfl
                    have hfz88_0 := blk_frozen BK107.out 0
                    have hfz88_1 := blk_frozen BK107.out 1
                    have hnb89 := NB117_101.out
                    have hnc89 := NB101_117.out
                    have hnb90 := NB117_118.out
                    have hnc90 := NB118_117.out
                    have hcz91_0 : w46.cell? ⟨gb117, 0, none⟩ = some (.int .i64 t113) := (blk_cell BK117.out 0).trans rfl
                    have hcz91_1 : w46.cell? ⟨gb117, 1, none⟩ = some (.int .i64 t114) := (blk_cell BK117.out 1).trans rfl
                    have hfz91_0 := blk_frozen BK117.out 0
                    have hfz91_1 := blk_frozen BK117.out 1
                    refine l_start ?_
                    repeat' (first
                      | (refine l_off (a' := ?_) (by rfl) ?_ ?_; rotate_left; (focus (simp only [Act.put, List.setIfInBounds_toArray, List.set_cons_zero, List.set_cons_succ, i64_w, i32_w]; rfl)))
                      | (refine l_run (v := ?_) (a' := ?_) (by rfl) ?_ ?_ ?_; rotate_left 2; (focus (go_simp; with_reducible rfl)); (focus (simp only [Act.put, List.setIfInBounds_toArray, List.set_cons_zero, List.set_cons_succ, i64_w, i32_w]; rfl))))
                    refine l_done ?_
                    go_wp2
                    go_meet
                    case rel => exact ⟨_, (false), (by first | rfl | (simp; done) | (simp [*]; done)), H', ⟨by have := HJ10.out; first | omega | exact Nat.le_refl _⟩, ⟨by (with_reducible repeat (first | refine blk_drewN ?_ _ | refine blk_drew ?_ | refine blk_alloc ?_ _)); exact BK101.out⟩, ⟨by (with_reducible repeat (first | refine blk_drewN ?_ _ | refine blk_drew ?_ | refine blk_alloc ?_ _)); exact BK106.out⟩, ⟨by (with_reducible repeat (first | refine blk_drewN ?_ _ | refine blk_drew ?_ | refine blk_alloc ?_ _)); exact BK107.out⟩, ⟨by (with_reducible repeat (first | refine blk_drewN ?_ _ | refine blk_drew ?_ | refine blk_alloc ?_ _)); exact BK117.out⟩, ⟨by (with_reducible repeat (first | refine blk_drewN ?_ _ | refine blk_drew ?_ | refine blk_alloc ?_ _)); exact BK118.out⟩, ⟨by repeat (first | (with_reducible first | exact HB.out | apply below_alloc | apply pw_below_drewN | apply below_drew1 | refine below_set ?_ GE101.out | refine below_set ?_ GE106.out | refine below_set ?_ GE107.out | refine below_set ?_ GE117.out | refine below_set ?_ GE118.out) | exact HB.out)⟩⟩
                · rw [if_neg c50] at H
                  exact absurd H (by simp)
              · rw [if_neg c49] at H
                exact absurd H (by simp)
            · rw [if_neg c48] at H
              have c48b0 : decide ((wrap64 (t103 + t105)) < 2147483648) = false := decide_eq_false c48
              clear c48
              by_cases c92 : (wrap64 (t102 - t105)) ≥ (-2147483648)
              · rw [if_pos c92] at H
                have c92b0 : decide ((-2147483648) ≤ (wrap64 (t102 - t105))) = true := decide_eq_true c92
                clear c92
                by_cases c93 : (wrap64 (t103 - t104)) < 2147483648
                · rw [if_pos c93] at H
                  have c93b0 : decide ((wrap64 (t103 - t104)) < 2147483648) = true := decide_eq_true c93
                  clear c93
                  by_cases c94 : t115 = (wrap64 (t102 - t105))
                  · rw [if_pos c94] at H
                    have c94b0 : (t115 == (wrap64 (t102 - t105))) = true := beq_iff_eq.mpr c94
                    have c94b1 : (t115 != (wrap64 (t102 - t105))) = false := bne_eq_false_iff_eq.mpr c94
                    clear c94
                    have H' := Aside0.mk H
                    clear H
                    have hnb95 := NB106_101.out
                    have hnc95 := NB101_106.out
                    have hnb96 := NB106_107.out
                    have hnc96 := NB107_106.out
                    have hnb97 := NB106_117.out
                    have hnc97 := NB117_106.out
                    have hnb98 := NB106_118.out
                    have hnc98 := NB118_106.out
                    have hcz99_0 : w46.cell? ⟨gb106, 0, none⟩ = some (.int .i64 t102) := (blk_cell BK106.out 0).trans rfl
                    have hcz99_1 : w46.cell? ⟨gb106, 1, none⟩ = some (.int .i64 t103) := (blk_cell BK106.out 1).trans rfl
                    have hfz99_0 := blk_frozen BK106.out 0
                    have hfz99_1 := blk_frozen BK106.out 1
                    have hnb100 := NB107_101.out
                    have hnc100 := NB101_107.out
                    have hnb101 := NB107_117.out
                    have hnc101 := NB117_107.out
                    have hnb102 := NB107_118.out
                    have hnc102 := NB118_107.out
                    have hcz103_0 : w46.cell? ⟨gb107, 0, none⟩ = some (.int .i64 t104) := (blk_cell BK107.out 0).trans rfl
                    have hcz103_1 : w46.cell? ⟨gb107, 1, none⟩ = some (.int .i64 t105) := (blk_cell BK107.out 1).trans rfl
                    have hfz103_0 := blk_frozen BK107.out 0
                    have hfz103_1 := blk_frozen BK107.out 1
                    have hnb104 := NB118_101.out
                    have hnc104 := NB101_118.out
                    have hnb105 := NB118_117.out
                    have hnc105 := NB117_118.out
                    have hcz106_0 : w46.cell? ⟨gb118, 0, none⟩ = some (.int .i64 t115) := (blk_cell BK118.out 0).trans rfl
                    have hcz106_1 : w46.cell? ⟨gb118, 1, none⟩ = some (.int .i64 t116) := (blk_cell BK118.out 1).trans rfl
                    have hfz106_0 := blk_frozen BK118.out 0
                    have hfz106_1 := blk_frozen BK118.out 1
                    refine l_start ?_
                    repeat' (first
                      | (refine l_off (a' := ?_) (by rfl) ?_ ?_; rotate_left; (focus (simp only [Act.put, List.setIfInBounds_toArray, List.set_cons_zero, List.set_cons_succ, i64_w, i32_w]; rfl)))
                      | (refine l_run (v := ?_) (a' := ?_) (by rfl) ?_ ?_ ?_; rotate_left 2; (focus (go_simp; with_reducible rfl)); (focus (simp only [Act.put, List.setIfInBounds_toArray, List.set_cons_zero, List.set_cons_succ, i64_w, i32_w]; rfl))))
                    refine l_done ?_
                    go_wp2
                    go_meet
                    case rel => exact ⟨_, ((t116 != (wrap64 (t103 - t104)))), (by first | rfl | (simp; done) | (simp [*]; done)), H', ⟨by have := HJ10.out; first | omega | exact Nat.le_refl _⟩, ⟨by (with_reducible repeat (first | refine blk_drewN ?_ _ | refine blk_drew ?_ | refine blk_alloc ?_ _)); exact BK101.out⟩, ⟨by (with_reducible repeat (first | refine blk_drewN ?_ _ | refine blk_drew ?_ | refine blk_alloc ?_ _)); exact BK106.out⟩, ⟨by (with_reducible repeat (first | refine blk_drewN ?_ _ | refine blk_drew ?_ | refine blk_alloc ?_ _)); exact BK107.out⟩, ⟨by (with_reducible repeat (first | refine blk_drewN ?_ _ | refine blk_drew ?_ | refine blk_alloc ?_ _)); exact BK117.out⟩, ⟨by (with_reducible repeat (first | refine blk_drewN ?_ _ | refine blk_drew ?_ | refine blk_alloc ?_ _)); exact BK118.out⟩, ⟨by repeat (first | (with_reducible first | exact HB.out | apply below_alloc | apply pw_below_drewN | apply below_drew1 | refine below_set ?_ GE101.out | refine below_set ?_ GE106.out | refine below_set ?_ GE107.out | refine below_set ?_ GE117.out | refine below_set ?_ GE118.out) | exact HB.out)⟩⟩
                  · rw [if_neg c94] at H
                    exact absurd H (by simp)
                · rw [if_neg c93] at H
                  have c93b0 : decide ((wrap64 (t103 - t104)) < 2147483648) = false := decide_eq_false c93
                  clear c93
                  have H' := Aside0.mk H
                  clear H
                  have hnb107 := NB106_101.out
                  have hnc107 := NB101_106.out
                  have hnb108 := NB106_107.out
                  have hnc108 := NB107_106.out
                  have hnb109 := NB106_117.out
                  have hnc109 := NB117_106.out
                  have hnb110 := NB106_118.out
                  have hnc110 := NB118_106.out
                  have hcz111_0 : w46.cell? ⟨gb106, 0, none⟩ = some (.int .i64 t102) := (blk_cell BK106.out 0).trans rfl
                  have hcz111_1 : w46.cell? ⟨gb106, 1, none⟩ = some (.int .i64 t103) := (blk_cell BK106.out 1).trans rfl
                  have hfz111_0 := blk_frozen BK106.out 0
                  have hfz111_1 := blk_frozen BK106.out 1
                  have hnb112 := NB107_101.out
                  have hnc112 := NB101_107.out
                  have hnb113 := NB107_117.out
                  have hnc113 := NB117_107.out
                  have hnb114 := NB107_118.out
                  have hnc114 := NB118_107.out
                  have hcz115_0 : w46.cell? ⟨gb107, 0, none⟩ = some (.int .i64 t104) := (blk_cell BK107.out 0).trans rfl
                  have hcz115_1 : w46.cell? ⟨gb107, 1, none⟩ = some (.int .i64 t105) := (blk_cell BK107.out 1).trans rfl
                  have hfz115_0 := blk_frozen BK107.out 0
                  have hfz115_1 := blk_frozen BK107.out 1
                  refine l_start ?_
                  repeat' (first
                    | (refine l_off (a' := ?_) (by rfl) ?_ ?_; rotate_left; (focus (simp only [Act.put, List.setIfInBounds_toArray, List.set_cons_zero, List.set_cons_succ, i64_w, i32_w]; rfl)))
                    | (refine l_run (v := ?_) (a' := ?_) (by rfl) ?_ ?_ ?_; rotate_left 2; (focus (go_simp; with_reducible rfl)); (focus (simp only [Act.put, List.setIfInBounds_toArray, List.set_cons_zero, List.set_cons_succ, i64_w, i32_w]; rfl))))
                  refine l_done ?_
                  go_wp2
                  go_meet
                  case rel => exact ⟨_, (false), (by first | rfl | (simp; done) | (simp [*]; done)), H', ⟨by have := HJ10.out; first | omega | exact Nat.le_refl _⟩, ⟨by (with_reducible repeat (first | refine blk_drewN ?_ _ | refine blk_drew ?_ | refine blk_alloc ?_ _)); exact BK101.out⟩, ⟨by (with_reducible repeat (first | refine blk_drewN ?_ _ | refine blk_drew ?_ | refine blk_alloc ?_ _)); exact BK106.out⟩, ⟨by (with_reducible repeat (first | refine blk_drewN ?_ _ | refine blk_drew ?_ | refine blk_alloc ?_ _)); exact BK107.out⟩, ⟨by (with_reducible repeat (first | refine blk_drewN ?_ _ | refine blk_drew ?_ | refine blk_alloc ?_ _)); exact BK117.out⟩, ⟨by (with_reducible repeat (first | refine blk_drewN ?_ _ | refine blk_drew ?_ | refine blk_alloc ?_ _)); exact BK118.out⟩, ⟨by repeat (first | (with_reducible first | exact HB.out | apply below_alloc | apply pw_below_drewN | apply below_drew1 | refine below_set ?_ GE101.out | refine below_set ?_ GE106.out | refine below_set ?_ GE107.out | refine below_set ?_ GE117.out | refine below_set ?_ GE118.out) | exact HB.out)⟩⟩
              · rw [if_neg c92] at H
                have c92b0 : decide ((-2147483648) ≤ (wrap64 (t102 - t105))) = false := decide_eq_false c92
                clear c92
                have H' := Aside0.mk H
                clear H
                have hnb116 := NB106_101.out
                have hnc116 := NB101_106.out
                have hnb117 := NB106_107.out
                have hnc117 := NB107_106.out
                have hnb118 := NB106_117.out
                have hnc118 := NB117_106.out
                have hnb119 := NB106_118.out
                have hnc119 := NB118_106.out
                have hcz120_0 : w46.cell? ⟨gb106, 0, none⟩ = some (.int .i64 t102) := (blk_cell BK106.out 0).trans rfl
                have hcz120_1 : w46.cell? ⟨gb106, 1, none⟩ = some (.int .i64 t103) := (blk_cell BK106.out 1).trans rfl
                have hfz120_0 := blk_frozen BK106.out 0
                have hfz120_1 := blk_frozen BK106.out 1
                have hnb121 := NB107_101.out
                have hnc121 := NB101_107.out
                have hnb122 := NB107_117.out
                have hnc122 := NB117_107.out
                have hnb123 := NB107_118.out
                have hnc123 := NB118_107.out
                have hcz124_0 : w46.cell? ⟨gb107, 0, none⟩ = some (.int .i64 t104) := (blk_cell BK107.out 0).trans rfl
                have hcz124_1 : w46.cell? ⟨gb107, 1, none⟩ = some (.int .i64 t105) := (blk_cell BK107.out 1).trans rfl
                have hfz124_0 := blk_frozen BK107.out 0
                have hfz124_1 := blk_frozen BK107.out 1
                refine l_start ?_
                repeat' (first
                  | (refine l_off (a' := ?_) (by rfl) ?_ ?_; rotate_left; (focus (simp only [Act.put, List.setIfInBounds_toArray, List.set_cons_zero, List.set_cons_succ, i64_w, i32_w]; rfl)))
                  | (refine l_run (v := ?_) (a' := ?_) (by rfl) ?_ ?_ ?_; rotate_left 2; (focus (go_simp; with_reducible rfl)); (focus (simp only [Act.put, List.setIfInBounds_toArray, List.set_cons_zero, List.set_cons_succ, i64_w, i32_w]; rfl))))
                refine l_done ?_
                go_wp2
                go_meet
                case rel => exact ⟨_, (false), (by first | rfl | (simp; done) | (simp [*]; done)), H', ⟨by have := HJ10.out; first | omega | exact Nat.le_refl _⟩, ⟨by (with_reducible repeat (first | refine blk_drewN ?_ _ | refine blk_drew ?_ | refine blk_alloc ?_ _)); exact BK101.out⟩, ⟨by (with_reducible repeat (first | refine blk_drewN ?_ _ | refine blk_drew ?_ | refine blk_alloc ?_ _)); exact BK106.out⟩, ⟨by (with_reducible repeat (first | refine blk_drewN ?_ _ | refine blk_drew ?_ | refine blk_alloc ?_ _)); exact BK107.out⟩, ⟨by (with_reducible repeat (first | refine blk_drewN ?_ _ | refine blk_drew ?_ | refine blk_alloc ?_ _)); exact BK117.out⟩, ⟨by (with_reducible repeat (first | refine blk_drewN ?_ _ | refine blk_drew ?_ | refine blk_alloc ?_ _)); exact BK118.out⟩, ⟨by repeat (first | (with_reducible first | exact HB.out | apply below_alloc | apply pw_below_drewN | apply below_drew1 | refine below_set ?_ GE101.out | refine below_set ?_ GE106.out | refine below_set ?_ GE107.out | refine below_set ?_ GE117.out | refine below_set ?_ GE118.out) | exact HB.out)⟩⟩
          · rw [if_neg c47] at H
            have c47b0 : decide ((-2147483648) ≤ (wrap64 (t102 + t104))) = false := decide_eq_false c47
            clear c47
            (first | rw [c47b0] | (simp only [i64_w, i32_w]; rw [c47b0]) | skip)
            by_cases c125 : (wrap64 (t102 - t105)) ≥ (-2147483648)
            · rw [if_pos c125] at H
              have c125b0 : decide ((-2147483648) ≤ (wrap64 (t102 - t105))) = true := decide_eq_true c125
              clear c125
              by_cases c126 : (wrap64 (t103 - t104)) < 2147483648
              · rw [if_pos c126] at H
                have c126b0 : decide ((wrap64 (t103 - t104)) < 2147483648) = true := decide_eq_true c126
                clear c126
                by_cases c127 : t115 = (wrap64 (t102 - t105))
                · rw [if_pos c127] at H
                  have c127b0 : (t115 == (wrap64 (t102 - t105))) = true := beq_iff_eq.mpr c127
                  have c127b1 : (t115 != (wrap64 (t102 - t105))) = false := bne_eq_false_iff_eq.mpr c127
                  clear c127
                  have H' := Aside0.mk H
                  clear H
                  have hnb128 := NB106_101.out
                  have hnc128 := NB101_106.out
                  have hnb129 := NB106_107.out
                  have hnc129 := NB107_106.out
                  have hnb130 := NB106_117.out
                  have hnc130 := NB117_106.out
                  have hnb131 := NB106_118.out
                  have hnc131 := NB118_106.out
                  have hcz132_0 : w46.cell? ⟨gb106, 0, none⟩ = some (.int .i64 t102) := (blk_cell BK106.out 0).trans rfl
                  have hcz132_1 : w46.cell? ⟨gb106, 1, none⟩ = some (.int .i64 t103) := (blk_cell BK106.out 1).trans rfl
                  have hfz132_0 := blk_frozen BK106.out 0
                  have hfz132_1 := blk_frozen BK106.out 1
                  have hnb133 := NB107_101.out
                  have hnc133 := NB101_107.out
                  have hnb134 := NB107_117.out
                  have hnc134 := NB117_107.out
                  have hnb135 := NB107_118.out
                  have hnc135 := NB118_107.out
                  have hcz136_0 : w46.cell? ⟨gb107, 0, none⟩ = some (.int .i64 t104) := (blk_cell BK107.out 0).trans rfl
                  have hcz136_1 : w46.cell? ⟨gb107, 1, none⟩ = some (.int .i64 t105) := (blk_cell BK107.out 1).trans rfl
                  have hfz136_0 := blk_frozen BK107.out 0
                  have hfz136_1 := blk_frozen BK107.out 1
                  have hnb137 := NB118_101.out
                  have hnc137 := NB101_118.out
                  have hnb138 := NB118_117.out
                  have hnc138 := NB117_118.out
                  have hcz139_0 : w46.cell? ⟨gb118, 0, none⟩ = some (.int .i64 t115) := (blk_cell BK118.out 0).trans rfl
                  have hcz139_1 : w46.cell? ⟨gb118, 1, none⟩ = some (.int .i64 t116) := (blk_cell BK118.out 1).trans rfl
                  have hfz139_0 := blk_frozen BK118.out 0
                  have hfz139_1 := blk_frozen BK118.out 1
                  refine l_start ?_
                  repeat' (first
                    | (refine l_off (a' := ?_) (by rfl) ?_ ?_; rotate_left; (focus (simp only [Act.put, List.setIfInBounds_toArray, List.set_cons_zero, List.set_cons_succ, i64_w, i32_w]; rfl)))
                    | (refine l_run (v := ?_) (a' := ?_) (by rfl) ?_ ?_ ?_; rotate_left 2; (focus (go_simp; with_reducible rfl)); (focus (simp only [Act.put, List.setIfInBounds_toArray, List.set_cons_zero, List.set_cons_succ, i64_w, i32_w]; rfl))))
                  refine l_done ?_
                  go_wp2
                  go_meet
                  case rel => exact ⟨_, ((t116 != (wrap64 (t103 - t104)))), (by first | rfl | (simp; done) | (simp [*]; done)), H', ⟨by have := HJ10.out; first | omega | exact Nat.le_refl _⟩, ⟨by (with_reducible repeat (first | refine blk_drewN ?_ _ | refine blk_drew ?_ | refine blk_alloc ?_ _)); exact BK101.out⟩, ⟨by (with_reducible repeat (first | refine blk_drewN ?_ _ | refine blk_drew ?_ | refine blk_alloc ?_ _)); exact BK106.out⟩, ⟨by (with_reducible repeat (first | refine blk_drewN ?_ _ | refine blk_drew ?_ | refine blk_alloc ?_ _)); exact BK107.out⟩, ⟨by (with_reducible repeat (first | refine blk_drewN ?_ _ | refine blk_drew ?_ | refine blk_alloc ?_ _)); exact BK117.out⟩, ⟨by (with_reducible repeat (first | refine blk_drewN ?_ _ | refine blk_drew ?_ | refine blk_alloc ?_ _)); exact BK118.out⟩, ⟨by repeat (first | (with_reducible first | exact HB.out | apply below_alloc | apply pw_below_drewN | apply below_drew1 | refine below_set ?_ GE101.out | refine below_set ?_ GE106.out | refine below_set ?_ GE107.out | refine below_set ?_ GE117.out | refine below_set ?_ GE118.out) | exact HB.out)⟩⟩
                · rw [if_neg c127] at H
                  exact absurd H (by simp)
              · rw [if_neg c126] at H
                have c126b0 : decide ((wrap64 (t103 - t104)) < 2147483648) = false := decide_eq_false c126
                clear c126
                have H' := Aside0.mk H
                clear H
                have hnb140 := NB106_101.out
                have hnc140 := NB101_106.out
                have hnb141 := NB106_107.out
                have hnc141 := NB107_106.out
                have hnb142 := NB106_117.out
                have hnc142 := NB117_106.out
                have hnb143 := NB106_118.out
                have hnc143 := NB118_106.out
                have hcz144_0 : w46.cell? ⟨gb106, 0, none⟩ = some (.int .i64 t102) := (blk_cell BK106.out 0).trans rfl
                have hcz144_1 : w46.cell? ⟨gb106, 1, none⟩ = some (.int .i64 t103) := (blk_cell BK106.out 1).trans rfl
                have hfz144_0 := blk_frozen BK106.out 0
                have hfz144_1 := blk_frozen BK106.out 1
                have hnb145 := NB107_101.out
                have hnc145 := NB101_107.out
                have hnb146 := NB107_117.out
                have hnc146 := NB117_107.out
                have hnb147 := NB107_118.out
                have hnc147 := NB118_107.out
                have hcz148_0 : w46.cell? ⟨gb107, 0, none⟩ = some (.int .i64 t104) := (blk_cell BK107.out 0).trans rfl
                have hcz148_1 : w46.cell? ⟨gb107, 1, none⟩ = some (.int .i64 t105) := (blk_cell BK107.out 1).trans rfl
                have hfz148_0 := blk_frozen BK107.out 0
                have hfz148_1 := blk_frozen BK107.out 1
                refine l_start ?_
                repeat' (first
                  | (refine l_off (a' := ?_) (by rfl) ?_ ?_; rotate_left; (focus (simp only [Act.put, List.setIfInBounds_toArray, List.set_cons_zero, List.set_cons_succ, i64_w, i32_w]; rfl)))
                  | (refine l_run (v := ?_) (a' := ?_) (by rfl) ?_ ?_ ?_; rotate_left 2; (focus (go_simp; with_reducible rfl)); (focus (simp only [Act.put, List.setIfInBounds_toArray, List.set_cons_zero, List.set_cons_succ, i64_w, i32_w]; rfl))))
                refine l_done ?_
                go_wp2
                go_meet
                case rel => exact ⟨_, (false), (by first | rfl | (simp; done) | (simp [*]; done)), H', ⟨by have := HJ10.out; first | omega | exact Nat.le_refl _⟩, ⟨by (with_reducible repeat (first | refine blk_drewN ?_ _ | refine blk_drew ?_ | refine blk_alloc ?_ _)); exact BK101.out⟩, ⟨by (with_reducible repeat (first | refine blk_drewN ?_ _ | refine blk_drew ?_ | refine blk_alloc ?_ _)); exact BK106.out⟩, ⟨by (with_reducible repeat (first | refine blk_drewN ?_ _ | refine blk_drew ?_ | refine blk_alloc ?_ _)); exact BK107.out⟩, ⟨by (with_reducible repeat (first | refine blk_drewN ?_ _ | refine blk_drew ?_ | refine blk_alloc ?_ _)); exact BK117.out⟩, ⟨by (with_reducible repeat (first | refine blk_drewN ?_ _ | refine blk_drew ?_ | refine blk_alloc ?_ _)); exact BK118.out⟩, ⟨by repeat (first | (with_reducible first | exact HB.out | apply below_alloc | apply pw_below_drewN | apply below_drew1 | refine below_set ?_ GE101.out | refine below_set ?_ GE106.out | refine below_set ?_ GE107.out | refine below_set ?_ GE117.out | refine below_set ?_ GE118.out) | exact HB.out)⟩⟩
            · rw [if_neg c125] at H
              have c125b0 : decide ((-2147483648) ≤ (wrap64 (t102 - t105))) = false := decide_eq_false c125
              clear c125
              have H' := Aside0.mk H
              clear H
              have hnb149 := NB106_101.out
              have hnc149 := NB101_106.out
              have hnb150 := NB106_107.out
              have hnc150 := NB107_106.out
              have hnb151 := NB106_117.out
              have hnc151 := NB117_106.out
              have hnb152 := NB106_118.out
              have hnc152 := NB118_106.out
              have hcz153_0 : w46.cell? ⟨gb106, 0, none⟩ = some (.int .i64 t102) := (blk_cell BK106.out 0).trans rfl
              have hcz153_1 : w46.cell? ⟨gb106, 1, none⟩ = some (.int .i64 t103) := (blk_cell BK106.out 1).trans rfl
              have hfz153_0 := blk_frozen BK106.out 0
              have hfz153_1 := blk_frozen BK106.out 1
              have hnb154 := NB107_101.out
              have hnc154 := NB101_107.out
              have hnb155 := NB107_117.out
              have hnc155 := NB117_107.out
              have hnb156 := NB107_118.out
              have hnc156 := NB118_107.out
              have hcz157_0 : w46.cell? ⟨gb107, 0, none⟩ = some (.int .i64 t104) := (blk_cell BK107.out 0).trans rfl
              have hcz157_1 : w46.cell? ⟨gb107, 1, none⟩ = some (.int .i64 t105) := (blk_cell BK107.out 1).trans rfl
              have hfz157_0 := blk_frozen BK107.out 0
              have hfz157_1 := blk_frozen BK107.out 1
              refine l_start ?_
              repeat' (first
                | (refine l_off (a' := ?_) (by rfl) ?_ ?_; rotate_left; (focus (simp only [Act.put, List.setIfInBounds_toArray, List.set_cons_zero, List.set_cons_succ, i64_w, i32_w]; rfl)))
                | (refine l_run (v := ?_) (a' := ?_) (by rfl) ?_ ?_ ?_; rotate_left 2; (focus (go_simp; with_reducible rfl)); (focus (simp only [Act.put, List.setIfInBounds_toArray, List.set_cons_zero, List.set_cons_succ, i64_w, i32_w]; rfl))))
              refine l_done ?_
              go_wp2
              go_meet
              case rel => exact ⟨_, (false), (by first | rfl | (simp; done) | (simp [*]; done)), H', ⟨by have := HJ10.out; first | omega | exact Nat.le_refl _⟩, ⟨by (with_reducible repeat (first | refine blk_drewN ?_ _ | refine blk_drew ?_ | refine blk_alloc ?_ _)); exact BK101.out⟩, ⟨by (with_reducible repeat (first | refine blk_drewN ?_ _ | refine blk_drew ?_ | refine blk_alloc ?_ _)); exact BK106.out⟩, ⟨by (with_reducible repeat (first | refine blk_drewN ?_ _ | refine blk_drew ?_ | refine blk_alloc ?_ _)); exact BK107.out⟩, ⟨by (with_reducible repeat (first | refine blk_drewN ?_ _ | refine blk_drew ?_ | refine blk_alloc ?_ _)); exact BK117.out⟩, ⟨by (with_reducible repeat (first | refine blk_drewN ?_ _ | refine blk_drew ?_ | refine blk_alloc ?_ _)); exact BK118.out⟩, ⟨by repeat (first | (with_reducible first | exact HB.out | apply below_alloc | apply pw_below_drewN | apply below_drew1 | refine below_set ?_ GE101.out | refine below_set ?_ GE106.out | refine below_set ?_ GE107.out | refine below_set ?_ GE117.out | refine below_set ?_ GE118.out) | exact HB.out)⟩⟩
        case rest =>
          clear HC36
          try clear c1
          try clear p2
          try clear c4
          try clear c5
          try clear c6
          try clear p6
          try clear c7
          try clear c8
          try clear c9
          try clear c10
          try clear c11
          try clear c12
          try clear c13
          try clear c14
          try clear c15
          try clear c47
          try clear c47b0
          try clear c48
          try clear c48b0
          try clear c49
          try clear c49b0
          try clear c49b1
          try clear c50
          try clear c50b0
          try clear c50b1
          try clear c51
          try clear c51b0
          try clear c52
          try clear c52b0
          try clear c53
          try clear c53b0
          try clear c53b1
          try clear c54
          try clear c55
          try clear c56
          try clear c57
          try clear c59
          try clear c60
          try clear c61
          try clear c63
          try clear c64
          try clear p64
          try clear c66
          try clear c68
          try clear c69
          try clear c70
          try clear c71
          try clear c73
          try clear c74
          try clear c75
          try clear c77
          try clear c78
          try clear c80
          try clear c81
          try clear c82
          try clear c83
          try clear c85
          try clear c86
          try clear c87
          try clear c89
          try clear c90
          try clear c92
          try clear c92b0
          try clear c93
          try clear c93b0
          try clear c94
          try clear c94b0
          try clear c94b1
          try clear c95
          try clear c96
          try clear c97
          try clear c98
          try clear c100
          try clear c101
          try clear c102
          try clear c104
          try clear c105
          try clear c107
          try clear c108
          try clear c109
          try clear c110
          try clear c112
          try clear c113
          try clear c114
          try clear c116
          try clear c117
          try clear c118
          try clear c119
          try clear c121
          try clear c122
          try clear c123
          try clear c125
          try clear c125b0
          try clear c126
          try clear c126b0
          try clear c127
          try clear c127b0
          try clear c127b1
          try clear c128
          try clear c129
          try clear c130
          try clear c131
          try clear c133
          try clear c134
          try clear c135
          try clear c137
          try clear c138
          try clear c140
          try clear c141
          try clear c142
          try clear c143
          try clear c145
          try clear c146
          try clear c147
          try clear c149
          try clear c150
          try clear c151
          try clear c152
          try clear c154
          try clear c155
          try clear c156
          try clear hcz103_0
          try clear hcz103_1
          try clear hcz106_0
          try clear hcz106_1
          try clear hcz111_0
          try clear hcz111_1
          try clear hcz115_0
          try clear hcz115_1
          try clear hcz120_0
          try clear hcz120_1
          try clear hcz124_0
          try clear hcz124_1
          try clear hcz132_0
          try clear hcz132_1
          try clear hcz136_0
          try clear hcz136_1
          try clear hcz139_0
          try clear hcz139_1
          try clear hcz144_0
          try clear hcz144_1
          try clear hcz148_0
          try clear hcz148_1
          try clear hcz153_0
          try clear hcz153_1
          try clear hcz157_0
          try clear hcz157_1
          try clear hcz58_0
          try clear hcz58_1
          try clear hcz62_0
          try clear hcz62_1
          try clear hcz65_0
          try clear hcz65_1
          try clear hcz67_0
          try clear hcz67_1
          try clear hcz72_0
          try clear hcz72_1
          try clear hcz76_0
          try clear hcz76_1
          try clear hcz79_0
          try clear hcz79_1
          try clear hcz84_0
          try clear hcz84_1
          try clear hcz88_0
          try clear hcz88_1
          try clear hcz91_0
          try clear hcz91_1
          try clear hcz99_0
          try clear hcz99_1
          try clear hfz103_0
          try clear hfz103_1
          try clear hfz106_0
          try clear hfz106_1
          try clear hfz111_0
          try clear hfz111_1
          try clear hfz115_0
          try clear hfz115_1
          try clear hfz120_0
          try clear hfz120_1
          try clear hfz124_0
          try clear hfz124_1
          try clear hfz132_0
          try clear hfz132_1
          try clear hfz136_0
          try clear hfz136_1
          try clear hfz139_0
          try clear hfz139_1
          try clear hfz144_0
          try clear hfz144_1
          try clear hfz148_0
          try clear hfz148_1
          try clear hfz153_0
          try clear hfz153_1
          try clear hfz157_0
          try clear hfz157_1
          try clear hfz58_0
          try clear hfz58_1
          try clear hfz62_0
          try clear hfz62_1
          try clear hfz65_0
          try clear hfz65_1
          try clear hfz67_0
          try clear hfz67_1
          try clear hfz72_0
          try clear hfz72_1
          try clear hfz76_0
          try clear hfz76_1
          try clear hfz79_0
          try clear hfz79_1
          try clear hfz84_0
          try clear hfz84_1
          try clear hfz88_0
          try clear hfz88_1
          try clear hfz91_0
          try clear hfz91_1
          try clear hfz99_0
          try clear hfz99_1
          obtain ⟨kq, x120_35, rfl, HA, HJ35, BK101, BK106, BK107, BK117, BK118, HB⟩ := hcut
          cases kq with
          | zero => exact absurd HA.out (by simp [timeboundlaw07_IntervalTight.j1])
          | succ kj35 =>
            have H := HA.out
            clear HA
            simp only [timeboundlaw07_IntervalTight.j1] at H
            by_cases c158 : x120_35 = true
            · subst c158
              have H1 : (none) = some r := by rw [if_pos rfl] at H; exact H
              clear H
              have H := H1
              clear H1
              exact absurd H (by simp)
            · replace c158 := Bool.eq_false_iff.mpr c158
              subst c158
              have H1 : ((timeboundlaw07_inside.f t102 t103 a6).bind fun t119 => ((timeboundlaw07_inside.f t104 t105 a7).bind fun t120 => ((timeboundlaw07_inside.f t102 t103 a7).bind fun t121 => ((timeboundlaw07_inside.f t104 t105 a6).bind fun t123 => ((interval_Do.f (wrap64 (1 + (Int.tmod (wrap64 (a0)) 14))) t119 (mx t119 t121) t120 (mx t120 t123)).bind fun bt125 => ((interval_Do.f (wrap64 (1 + (Int.tmod (wrap64 (a0)) 14))) t102 t103 t104 t105).bind fun bt127 => ((interval_Leq.f bt125.1 bt125.2 bt127.1 bt127.2).bind fun t129 => (if t129 = true then ((timeboundlaw07_awake.f).bind fun t130 => (some t130)) else (none))))))))) = some r := by rw [if_neg (show ¬ (false = true) by decide)] at H; exact H
              clear H
              have H := H1
              clear H1
              replace H := Option.bind_eq_some_iff.mp H
              obtain ⟨t119, A1590, H⟩ := H
              replace H : ((timeboundlaw07_inside.f t104 t105 a7).bind fun t120 => ((timeboundlaw07_inside.f t102 t103 a7).bind fun t121 => ((timeboundlaw07_inside.f t104 t105 a6).bind fun t123 => ((interval_Do.f (wrap64 (1 + (Int.tmod (wrap64 (a0)) 14))) t119 (mx t119 t121) t120 (mx t120 t123)).bind fun bt125 => ((interval_Do.f (wrap64 (1 + (Int.tmod (wrap64 (a0)) 14))) t102 t103 t104 t105).bind fun bt127 => ((interval_Leq.f bt125.1 bt125.2 bt127.1 bt127.2).bind fun t129 => (if t129 = true then ((timeboundlaw07_awake.f).bind fun t130 => (some t130)) else (none)))))))) = some r := H
              have A159 := Aside0.mk A1590
              clear A1590
              replace H := Option.bind_eq_some_iff.mp H
              obtain ⟨t120, A1600, H⟩ := H
              replace H : ((timeboundlaw07_inside.f t102 t103 a7).bind fun t121 => ((timeboundlaw07_inside.f t104 t105 a6).bind fun t123 => ((interval_Do.f (wrap64 (1 + (Int.tmod (wrap64 (a0)) 14))) t119 (mx t119 t121) t120 (mx t120 t123)).bind fun bt125 => ((interval_Do.f (wrap64 (1 + (Int.tmod (wrap64 (a0)) 14))) t102 t103 t104 t105).bind fun bt127 => ((interval_Leq.f bt125.1 bt125.2 bt127.1 bt127.2).bind fun t129 => (if t129 = true then ((timeboundlaw07_awake.f).bind fun t130 => (some t130)) else (none))))))) = some r := H
              have A160 := Aside0.mk A1600
              clear A1600
              replace H := Option.bind_eq_some_iff.mp H
              obtain ⟨t121, A1610, H⟩ := H
              replace H : ((timeboundlaw07_inside.f t104 t105 a6).bind fun t123 => ((interval_Do.f (wrap64 (1 + (Int.tmod (wrap64 (a0)) 14))) t119 (mx t119 t121) t120 (mx t120 t123)).bind fun bt125 => ((interval_Do.f (wrap64 (1 + (Int.tmod (wrap64 (a0)) 14))) t102 t103 t104 t105).bind fun bt127 => ((interval_Leq.f bt125.1 bt125.2 bt127.1 bt127.2).bind fun t129 => (if t129 = true then ((timeboundlaw07_awake.f).bind fun t130 => (some t130)) else (none)))))) = some r := H
              have A161 := Aside0.mk A1610
              clear A1610
              obtain ⟨ji162, hji162⟩ : ∃ j_ : Int, (mx t119 t121) = j_ := ⟨_, rfl⟩
              replace H : ((timeboundlaw07_inside.f t104 t105 a6).bind fun t123 => ((interval_Do.f (wrap64 (1 + (Int.tmod (wrap64 (a0)) 14))) t119 (ji162) t120 (mx t120 t123)).bind fun bt125 => ((interval_Do.f (wrap64 (1 + (Int.tmod (wrap64 (a0)) 14))) t102 t103 t104 t105).bind fun bt127 => ((interval_Leq.f bt125.1 bt125.2 bt127.1 bt127.2).bind fun t129 => (if t129 = true then ((timeboundlaw07_awake.f).bind fun t130 => (some t130)) else (none)))))) = some r := by first | (rw [hji162] at H; exact H) | (simp only [hji162] at H ⊢; exact H)
              (try rw [hji162] at A159)
              (try rw [hji162] at A160)
              (try rw [hji162] at A161)
              have hji162_ : (if t119 < t121 then t121 else t119) = ji162 := hji162
              replace H := Option.bind_eq_some_iff.mp H
              obtain ⟨t123, A1630, H⟩ := H
              replace H : ((interval_Do.f (wrap64 (1 + (Int.tmod (wrap64 (a0)) 14))) t119 (ji162) t120 (mx t120 t123)).bind fun bt125 => ((interval_Do.f (wrap64 (1 + (Int.tmod (wrap64 (a0)) 14))) t102 t103 t104 t105).bind fun bt127 => ((interval_Leq.f bt125.1 bt125.2 bt127.1 bt127.2).bind fun t129 => (if t129 = true then ((timeboundlaw07_awake.f).bind fun t130 => (some t130)) else (none))))) = some r := H
              have A163 := Aside0.mk A1630
              clear A1630
              obtain ⟨ji164, hji164⟩ : ∃ j_ : Int, (mx t120 t123) = j_ := ⟨_, rfl⟩
              replace H : ((interval_Do.f (wrap64 (1 + (Int.tmod (wrap64 (a0)) 14))) t119 (ji162) t120 (ji164)).bind fun bt125 => ((interval_Do.f (wrap64 (1 + (Int.tmod (wrap64 (a0)) 14))) t102 t103 t104 t105).bind fun bt127 => ((interval_Leq.f bt125.1 bt125.2 bt127.1 bt127.2).bind fun t129 => (if t129 = true then ((timeboundlaw07_awake.f).bind fun t130 => (some t130)) else (none))))) = some r := by first | (rw [hji164] at H; exact H) | (simp only [hji164] at H ⊢; exact H)
              (try rw [hji164] at A159)
              (try rw [hji164] at A160)
              (try rw [hji164] at A161)
              (try rw [hji164] at A163)
              have hji164_ : (if t120 < t123 then t123 else t120) = ji164 := hji164
              replace H := Option.bind_eq_some_iff.mp H
              obtain ⟨⟨t125, t126⟩, A1650, H⟩ := H
              replace H : ((interval_Do.f (wrap64 (1 + (Int.tmod (wrap64 (a0)) 14))) t102 t103 t104 t105).bind fun bt127 => ((interval_Leq.f t125 t126 bt127.1 bt127.2).bind fun t129 => (if t129 = true then ((timeboundlaw07_awake.f).bind fun t130 => (some t130)) else (none)))) = some r := H
              have A165 := Aside0.mk A1650
              clear A1650
              replace H := Option.bind_eq_some_iff.mp H
              obtain ⟨⟨t127, t128⟩, A1660, H⟩ := H
              replace H : ((interval_Leq.f t125 t126 t127 t128).bind fun t129 => (if t129 = true then ((timeboundlaw07_awake.f).bind fun t130 => (some t130)) else (none))) = some r := H
              have A166 := Aside0.mk A1660
              clear A1660
              replace H := Option.bind_eq_some_iff.mp H
              obtain ⟨t129, A1670, H⟩ := H
              replace H : (if t129 = true then ((timeboundlaw07_awake.f).bind fun t130 => (some t130)) else (none)) = some r := H
              have A167 := Aside0.mk A1670
              clear A1670
              by_cases c168 : t129 = true
              · subst c168
                have H1 : ((timeboundlaw07_awake.f).bind fun t130 => (some t130)) = some r := by rw [if_pos rfl] at H; exact H
                clear H
                have H := H1
                clear H1
                replace H := Option.bind_eq_some_iff.mp H
                obtain ⟨t130, A1690, H⟩ := H
                replace H : (some t130) = some r := H
                have A169 := Aside0.mk A1690
                clear A1690
                obtain rfl := Option.some.inj H
                try go_wp2
                have n0_ := Aside0.mk (blk_drew BK101.out)
                have n1_ := Aside0.mk (blk_drew BK106.out)
                have n2_ := Aside0.mk (blk_drew BK107.out)
                have n3_ := Aside0.mk (blk_drew BK117.out)
                have n4_ := Aside0.mk (blk_drew BK118.out)
                have n5_ := Aside0.mk (below_drew1 HB.out)
                clear BK101
                clear BK106
                clear BK107
                clear BK117
                clear BK118
                clear HB
                have BK101 := n0_
                have BK106 := n1_
                have BK107 := n2_
                have BK117 := n3_
                have BK118 := n4_
                have HB := n5_
                clear n0_ n1_ n2_ n3_ n4_ n5_
                refine start_ (n := 8) (S := fun w' => w'.cell? ⟨gb106, 0, none⟩ = some (.int .i64 t102) ∧ w'.cell? ⟨gb106, 1, none⟩ = some (.int .i64 t103) ∧ w'.cell? ⟨gb107, 0, none⟩ = some (.int .i64 t104) ∧ w'.cell? ⟨gb107, 1, none⟩ = some (.int .i64 t105)) (ds := []) #[false, false, false, false, false, false, false, false] (by kernel_rfl) rfl rfl ⟨(blk_cell BK106.out 0).trans rfl, (blk_cell BK106.out 1).trans rfl, (blk_cell BK107.out 0).trans rfl, (blk_cell BK107.out 1).trans rfl⟩ (fun hHeld => ?_); refine with_tabW timeboundlaw07_IntervalTight.tab8 timeboundlaw07_IntervalTight.bits8 (fun HT_ HW_ => ?_)
                generalize wc.drew = w170 at BK101 BK106 BK107 BK117 BK118 HB hHeld ⊢
                refine pure_ (i := 1) (N := some 126) (v := ?_) (a' := ?_) #[false, true, false, false, false, false, false, false] rfl rfl (any_of HT_.out (by kernel_rfl)) (fun _ _ _ h => h) (Or.inl ⟨by rfl, ?_⟩) ?_ ?_
                rotate_left
                · intro w'
                  go_simp
                  with_reducible rfl
                rotate_left
                · simp only [Act.put, List.setIfInBounds_toArray, List.set_cons_zero, List.set_cons_succ, i64_w, i32_w]
                  rfl
                refine pure_ (i := 4) (N := some 129) (v := ?_) (a' := ?_) #[false, true, false, false, true, false, false, false] rfl rfl (any_of HT_.out (by kernel_rfl)) (fun _ _ _ h => h) (Or.inl ⟨by rfl, ?_⟩) ?_ ?_
                rotate_left
                · intro w'
                  go_simp
                  with_reducible rfl
                rotate_left
                · simp only [Act.put, List.setIfInBounds_toArray, List.set_cons_zero, List.set_cons_succ, i64_w, i32_w]
                  rfl
                refine take_ (i := 0) (N := some 125) (v := ?_) (a' := ?_) #[true, true, false, false, true, false, false, false] rfl rfl (take_ofW HT_.out HW_.out (by kernel_rfl)) (fun _ _ _ h => h) (Or.inl ⟨by rfl, ?_⟩) hHeld ?_ ?_
                rotate_left
                · rintro w' ⟨s0, s1, s2, s3⟩
                  go_simp
                  with_reducible rfl
                rotate_left
                · simp only [Act.put, List.setIfInBounds_toArray, List.set_cons_zero, List.set_cons_succ, i64_w, i32_w]
                  rfl
                refine take_ (i := 3) (N := some 128) (v := ?_) (a' := ?_) #[true, true, false, true, true, false, false, false] rfl rfl (take_ofW HT_.out HW_.out (by kernel_rfl)) (fun _ _ _ h => h) (Or.inl ⟨by rfl, ?_⟩) hHeld ?_ ?_
                rotate_left
                · rintro w' ⟨s0, s1, s2, s3⟩
                  go_simp
                  with_reducible rfl
                rotate_left
                · simp only [Act.put, List.setIfInBounds_toArray, List.set_cons_zero, List.set_cons_succ, i64_w, i32_w]
                  rfl
                refine one_ (i := 2) (N := some 127) #[true, true, true, true, true, false, false, false] rfl rfl (one_of HT_.out (by kernel_rfl)) (by decide) (fun K hK => ?_)
                refine goes_ Try.func18 (by kernel_rfl) rfl #[.agg #[.int .i64 t102, .int .i64 t103], .int .u32 a6] (by rfl) rfl rfl (by (try simp only [List.map_toArray, List.map_cons, List.map_nil]); first | done | rfl | (simp only [List.length_drop, List.length_take]; rfl)) ?_
                with_reducible refine (timeboundlaw07_inside.calls t102 t103 a6 t119 _ A159.out).mono ?_
                rintro e w171 ⟨rfl, hb⟩
                refine ⟨_, rfl, ?_⟩
                have n0_ := Aside0.mk (blk_below (g := gb101) (o := .cells #[.int .u8 a5_0, .int .u8 a5_1] 27 (0, 0)) (by (with_reducible repeat (first | refine blk_drewN ?_ _ | refine blk_drew ?_ | refine blk_alloc ?_ _)); exact BK101.out) hb)
                have n1_ := Aside0.mk (blk_below (g := gb106) (o := .cells #[.int .i64 t102, .int .i64 t103] 23 (0, 0)) (by (with_reducible repeat (first | refine blk_drewN ?_ _ | refine blk_drew ?_ | refine blk_alloc ?_ _)); exact BK106.out) hb)
                have n2_ := Aside0.mk (blk_below (g := gb107) (o := .cells #[.int .i64 t104, .int .i64 t105] 23 (0, 0)) (by (with_reducible repeat (first | refine blk_drewN ?_ _ | refine blk_drew ?_ | refine blk_alloc ?_ _)); exact BK107.out) hb)
                have n3_ := Aside0.mk (blk_below (g := gb117) (o := .cells #[.int .i64 t113, .int .i64 t114] 23 (0, 0)) (by (with_reducible repeat (first | refine blk_drewN ?_ _ | refine blk_drew ?_ | refine blk_alloc ?_ _)); exact BK117.out) hb)
                have n4_ := Aside0.mk (blk_below (g := gb118) (o := .cells #[.int .i64 t115, .int .i64 t116] 23 (0, 0)) (by (with_reducible repeat (first | refine blk_drewN ?_ _ | refine blk_drew ?_ | refine blk_alloc ?_ _)); exact BK118.out) hb)
                have n5_ := Aside0.mk (below_step (by repeat (first | (with_reducible first | exact HB.out | apply below_alloc | apply pw_below_drewN | apply below_drew1 | refine below_set ?_ GE101.out | refine below_set ?_ GE106.out | refine below_set ?_ GE107.out | refine below_set ?_ GE117.out | refine below_set ?_ GE118.out) | exact HB.out)) hb)
                clear BK101
                clear BK106
                clear BK107
                clear BK117
                clear BK118
                clear HB
                have BK101 := n0_
                have BK106 := n1_
                have BK107 := n2_
                have BK117 := n3_
                have BK118 := n4_
                have HB := n5_
                clear n0_ n1_ n2_ n3_ n4_ n5_
                (try clear hb)
                (try clear hb2)
                (try clear hk)
                (try clear hi)
                refine hK.out _ _ ⟨(blk_cell BK106.out 0).trans rfl, (blk_cell BK106.out 1).trans rfl, (blk_cell BK107.out 0).trans rfl, (blk_cell BK107.out 1).trans rfl⟩ (fun hHeld => ?_)
                clear hK K
                refine norm_ (a' := ?_) ?_ ?_
                rotate_left
                · show Act.put _ (some 127) _ = _
                  simp only [Act.put, List.setIfInBounds_toArray, List.set_cons_zero, List.set_cons_succ, i64_w, i32_w]
                  rfl
                refine one_ (i := 5) (N := some 130) #[true, true, true, true, true, true, false, false] rfl rfl (one_of HT_.out (by kernel_rfl)) (by decide) (fun K hK => ?_)
                refine goes_ Try.func18 (by kernel_rfl) rfl #[.agg #[.int .i64 t104, .int .i64 t105], .int .u32 a7] (by rfl) rfl rfl (by (try simp only [List.map_toArray, List.map_cons, List.map_nil]); first | done | rfl | (simp only [List.length_drop, List.length_take]; rfl)) ?_
                with_reducible refine (timeboundlaw07_inside.calls t104 t105 a7 t120 _ A160.out).mono ?_
                rintro e w172 ⟨rfl, hb⟩
                refine ⟨_, rfl, ?_⟩
                have n0_ := Aside0.mk (blk_below (g := gb101) (o := .cells #[.int .u8 a5_0, .int .u8 a5_1] 27 (0, 0)) (by (with_reducible repeat (first | refine blk_drewN ?_ _ | refine blk_drew ?_ | refine blk_alloc ?_ _)); exact BK101.out) hb)
                have n1_ := Aside0.mk (blk_below (g := gb106) (o := .cells #[.int .i64 t102, .int .i64 t103] 23 (0, 0)) (by (with_reducible repeat (first | refine blk_drewN ?_ _ | refine blk_drew ?_ | refine blk_alloc ?_ _)); exact BK106.out) hb)
                have n2_ := Aside0.mk (blk_below (g := gb107) (o := .cells #[.int .i64 t104, .int .i64 t105] 23 (0, 0)) (by (with_reducible repeat (first | refine blk_drewN ?_ _ | refine blk_drew ?_ | refine blk_alloc ?_ _)); exact BK107.out) hb)
                have n3_ := Aside0.mk (blk_below (g := gb117) (o := .cells #[.int .i64 t113, .int .i64 t114] 23 (0, 0)) (by (with_reducible repeat (first | refine blk_drewN ?_ _ | refine blk_drew ?_ | refine blk_alloc ?_ _)); exact BK117.out) hb)
                have n4_ := Aside0.mk (blk_below (g := gb118) (o := .cells #[.int .i64 t115, .int .i64 t116] 23 (0, 0)) (by (with_reducible repeat (first | refine blk_drewN ?_ _ | refine blk_drew ?_ | refine blk_alloc ?_ _)); exact BK118.out) hb)
                have n5_ := Aside0.mk (below_step (by repeat (first | (with_reducible first | exact HB.out | apply below_alloc | apply pw_below_drewN | apply below_drew1 | refine below_set ?_ GE101.out | refine below_set ?_ GE106.out | refine below_set ?_ GE107.out | refine below_set ?_ GE117.out | refine below_set ?_ GE118.out) | exact HB.out)) hb)
                clear BK101
                clear BK106
                clear BK107
                clear BK117
                clear BK118
                clear HB
                have BK101 := n0_
                have BK106 := n1_
                have BK107 := n2_
                have BK117 := n3_
                have BK118 := n4_
                have HB := n5_
                clear n0_ n1_ n2_ n3_ n4_ n5_
                (try clear hb)
                (try clear hb2)
                (try clear hk)
                (try clear hi)
                refine hK.out _ _ ⟨(blk_cell BK106.out 0).trans rfl, (blk_cell BK106.out 1).trans rfl, (blk_cell BK107.out 0).trans rfl, (blk_cell BK107.out 1).trans rfl⟩ (fun hHeld => ?_)
                clear hK K
                refine norm_ (a' := ?_) ?_ ?_
                rotate_left
                · show Act.put _ (some 130) _ = _
                  simp only [Act.put, List.setIfInBounds_toArray, List.set_cons_zero, List.set_cons_succ, i64_w, i32_w]
                  rfl
                refine pure_ (i := 6) (N := some 22) (v := ?_) (a' := ?_) #[true, true, true, true, true, true, true, false] rfl rfl (any_of HT_.out (by kernel_rfl)) (fun _ _ _ h => h) (Or.inl ⟨by rfl, ?_⟩) ?_ ?_
                rotate_left
                · intro w'
                  go_simp
                  with_reducible rfl
                rotate_left
                · simp only [Act.put, List.setIfInBounds_toArray, List.set_cons_zero, List.set_cons_succ, i64_w, i32_w]
                  rfl
                refine pure_ (i := 7) (N := some 23) (v := ?_) (a' := ?_) #[true, true, true, true, true, true, true, true] rfl rfl (any_of HT_.out (by kernel_rfl)) (fun _ _ _ h => h) (Or.inl ⟨by rfl, ?_⟩) ?_ ?_
                rotate_left
                · intro w'
                  go_simp
                  with_reducible rfl
                rotate_left
                · simp only [Act.put, List.setIfInBounds_toArray, List.set_cons_zero, List.set_cons_succ, i64_w, i32_w]
                  rfl
                refine done_ (done_of HT_.out (by kernel_rfl)) ?_
                have hnb173 := NB106_101.out
                have hnc173 := NB101_106.out
                have hnb174 := NB106_107.out
                have hnc174 := NB107_106.out
                have hnb175 := NB106_117.out
                have hnc175 := NB117_106.out
                have hnb176 := NB106_118.out
                have hnc176 := NB118_106.out
                have hcz177_0 : w172.cell? ⟨gb106, 0, none⟩ = some (.int .i64 t102) := (blk_cell BK106.out 0).trans rfl
                have hcz177_1 : w172.cell? ⟨gb106, 1, none⟩ = some (.int .i64 t103) := (blk_cell BK106.out 1).trans rfl
                have hfz177_0 := blk_frozen BK106.out 0
                have hfz177_1 := blk_frozen BK106.out 1
                try go_wp2_with (first | ((with_reducible refine gate_callee (f := 18) rfl ?_); refine goesL_ (some 135) rfl rfl Try.func18 (by kernel_rfl) rfl #[.agg #[.int .i64 t102, .int .i64 t103], .int .u32 a7] rfl (by (try simp only [List.map_toArray, List.map_cons, List.map_nil]); first | done | rfl | (simp only [List.length_drop, List.length_take]; rfl)) ?_; (with_reducible refine (timeboundlaw07_inside.calls t102 t103 a7 t121 _ A161.out).mono ?_); rintro e w178 ⟨rfl, hb⟩; refine ⟨_, rfl, ?_⟩; have n0_ := Aside0.mk (blk_below (g := gb101) (o := .cells #[.int .u8 a5_0, .int .u8 a5_1] 27 (0, 0)) (by (with_reducible repeat (first | refine blk_drewN ?_ _ | refine blk_drew ?_ | refine blk_alloc ?_ _)); exact BK101.out) hb); have n1_ := Aside0.mk (blk_below (g := gb106) (o := .cells #[.int .i64 t102, .int .i64 t103] 23 (0, 0)) (by (with_reducible repeat (first | refine blk_drewN ?_ _ | refine blk_drew ?_ | refine blk_alloc ?_ _)); exact BK106.out) hb); have n2_ := Aside0.mk (blk_below (g := gb107) (o := .cells #[.int .i64 t104, .int .i64 t105] 23 (0, 0)) (by (with_reducible repeat (first | refine blk_drewN ?_ _ | refine blk_drew ?_ | refine blk_alloc ?_ _)); exact BK107.out) hb); have n3_ := Aside0.mk (blk_below (g := gb117) (o := .cells #[.int .i64 t113, .int .i64 t114] 23 (0, 0)) (by (with_reducible repeat (first | refine blk_drewN ?_ _ | refine blk_drew ?_ | refine blk_alloc ?_ _)); exact BK117.out) hb); have n4_ := Aside0.mk (blk_below (g := gb118) (o := .cells #[.int .i64 t115, .int .i64 t116] 23 (0, 0)) (by (with_reducible repeat (first | refine blk_drewN ?_ _ | refine blk_drew ?_ | refine blk_alloc ?_ _)); exact BK118.out) hb); have n5_ := Aside0.mk (below_step (by repeat (first | (with_reducible first | exact HB.out | apply below_alloc | apply pw_below_drewN | apply below_drew1 | refine below_set ?_ GE101.out | refine below_set ?_ GE106.out | refine below_set ?_ GE107.out | refine below_set ?_ GE117.out | refine below_set ?_ GE118.out) | exact HB.out)) hb); clear BK101; clear BK106; clear BK107; clear BK117; clear BK118; clear HB; have BK101 := n0_; have BK106 := n1_; have BK107 := n2_; have BK117 := n3_; have BK118 := n4_; have HB := n5_; clear n0_ n1_ n2_ n3_ n4_ n5_; (try clear hb); (try clear hb2); (try clear hk); (try clear hi)) | ((with_reducible refine gate_dst (N := 24) rfl ?_); refine box_event ?hg (N := 24) ?hd (cs := #[.int .i64 0, .int .i64 0]) (t := 23) ?hr ?_; (case hd => rfl); (case hg => rfl); (case hr => first | (go_simp; done) | (go_simp; rfl)); intro gb122 hg w179 hbox hb; have n0_ := Aside0.mk (blk_below (g := gb101) (o := .cells #[.int .u8 a5_0, .int .u8 a5_1] 27 (0, 0)) (by (with_reducible repeat (first | refine blk_drewN ?_ _ | refine blk_drew ?_ | refine blk_alloc ?_ _)); exact BK101.out) hb); have n1_ := Aside0.mk (blk_below (g := gb106) (o := .cells #[.int .i64 t102, .int .i64 t103] 23 (0, 0)) (by (with_reducible repeat (first | refine blk_drewN ?_ _ | refine blk_drew ?_ | refine blk_alloc ?_ _)); exact BK106.out) hb); have n2_ := Aside0.mk (blk_below (g := gb107) (o := .cells #[.int .i64 t104, .int .i64 t105] 23 (0, 0)) (by (with_reducible repeat (first | refine blk_drewN ?_ _ | refine blk_drew ?_ | refine blk_alloc ?_ _)); exact BK107.out) hb); have n3_ := Aside0.mk (blk_below (g := gb117) (o := .cells #[.int .i64 t113, .int .i64 t114] 23 (0, 0)) (by (with_reducible repeat (first | refine blk_drewN ?_ _ | refine blk_drew ?_ | refine blk_alloc ?_ _)); exact BK117.out) hb); have n4_ := Aside0.mk (blk_below (g := gb118) (o := .cells #[.int .i64 t115, .int .i64 t116] 23 (0, 0)) (by (with_reducible repeat (first | refine blk_drewN ?_ _ | refine blk_drew ?_ | refine blk_alloc ?_ _)); exact BK118.out) hb); have n5_ := Aside0.mk (below_step (by repeat (first | (with_reducible first | exact HB.out | apply below_alloc | apply pw_below_drewN | apply below_drew1 | refine below_set ?_ GE101.out | refine below_set ?_ GE106.out | refine below_set ?_ GE107.out | refine below_set ?_ GE117.out | refine below_set ?_ GE118.out) | exact HB.out)) hb); have n6_ := Aside0.mk (hbox); have n7_ := Aside0.mk ((by rw [hg]; exact (below_size (by repeat (first | (with_reducible first | exact HB.out | apply below_alloc | apply pw_below_drewN | apply below_drew1 | refine below_set ?_ GE101.out | refine below_set ?_ GE106.out | refine below_set ?_ GE107.out | refine below_set ?_ GE117.out | refine below_set ?_ GE118.out) | exact HB.out))) : w.heap.size ≤ gb122)); have n8_ := Aside0.mk ((by rw [hg]; exact (below_size (by repeat (first | (with_reducible first | exact HB.out | apply below_alloc | apply pw_below_drewN | apply below_drew1 | refine below_set ?_ GE101.out | refine below_set ?_ GE106.out | refine below_set ?_ GE107.out | refine below_set ?_ GE117.out | refine below_set ?_ GE118.out) | exact HB.out))) : w.heap.size ≤ gb122)); have n9_ := Aside0.mk ((by rw [hg]; exact Nat.ne_of_lt (blk_lt (g := gb101) (o := .cells #[.int .u8 a5_0, .int .u8 a5_1] 27 (0, 0)) (by (with_reducible repeat (first | refine blk_drewN ?_ _ | refine blk_drew ?_ | refine blk_alloc ?_ _)); exact BK101.out)) : gb101 ≠ gb122)); have n10_ := Aside0.mk ((by rw [hg]; exact Nat.ne_of_gt (blk_lt (g := gb101) (o := .cells #[.int .u8 a5_0, .int .u8 a5_1] 27 (0, 0)) (by (with_reducible repeat (first | refine blk_drewN ?_ _ | refine blk_drew ?_ | refine blk_alloc ?_ _)); exact BK101.out)) : gb122 ≠ gb101)); have n11_ := Aside0.mk ((by rw [hg]; exact Nat.ne_of_lt (blk_lt (g := gb106) (o := .cells #[.int .i64 t102, .int .i64 t103] 23 (0, 0)) (by (with_reducible repeat (first | refine blk_drewN ?_ _ | refine blk_drew ?_ | refine blk_alloc ?_ _)); exact BK106.out)) : gb106 ≠ gb122)); have n12_ := Aside0.mk ((by rw [hg]; exact Nat.ne_of_gt (blk_lt (g := gb106) (o := .cells #[.int .i64 t102, .int .i64 t103] 23 (0, 0)) (by (with_reducible repeat (first | refine blk_drewN ?_ _ | refine blk_drew ?_ | refine blk_alloc ?_ _)); exact BK106.out)) : gb122 ≠ gb106)); have n13_ := Aside0.mk ((by rw [hg]; exact Nat.ne_of_lt (blk_lt (g := gb107) (o := .cells #[.int .i64 t104, .int .i64 t105] 23 (0, 0)) (by (with_reducible repeat (first | refine blk_drewN ?_ _ | refine blk_drew ?_ | refine blk_alloc ?_ _)); exact BK107.out)) : gb107 ≠ gb122)); have n14_ := Aside0.mk ((by rw [hg]; exact Nat.ne_of_gt (blk_lt (g := gb107) (o := .cells #[.int .i64 t104, .int .i64 t105] 23 (0, 0)) (by (with_reducible repeat (first | refine blk_drewN ?_ _ | refine blk_drew ?_ | refine blk_alloc ?_ _)); exact BK107.out)) : gb122 ≠ gb107)); have n15_ := Aside0.mk ((by rw [hg]; exact Nat.ne_of_lt (blk_lt (g := gb117) (o := .cells #[.int .i64 t113, .int .i64 t114] 23 (0, 0)) (by (with_reducible repeat (first | refine blk_drewN ?_ _ | refine blk_drew ?_ | refine blk_alloc ?_ _)); exact BK117.out)) : gb117 ≠ gb122)); have n16_ := Aside0.mk ((by rw [hg]; exact Nat.ne_of_gt (blk_lt (g := gb117) (o := .cells #[.int .i64 t113, .int .i64 t114] 23 (0, 0)) (by (with_reducible repeat (first | refine blk_drewN ?_ _ | refine blk_drew ?_ | refine blk_alloc ?_ _)); exact BK117.out)) : gb122 ≠ gb117)); have n17_ := Aside0.mk ((by rw [hg]; exact Nat.ne_of_lt (blk_lt (g := gb118) (o := .cells #[.int .i64 t115, .int .i64 t116] 23 (0, 0)) (by (with_reducible repeat (first | refine blk_drewN ?_ _ | refine blk_drew ?_ | refine blk_alloc ?_ _)); exact BK118.out)) : gb118 ≠ gb122)); have n18_ := Aside0.mk ((by rw [hg]; exact Nat.ne_of_gt (blk_lt (g := gb118) (o := .cells #[.int .i64 t115, .int .i64 t116] 23 (0, 0)) (by (with_reducible repeat (first | refine blk_drewN ?_ _ | refine blk_drew ?_ | refine blk_alloc ?_ _)); exact BK118.out)) : gb122 ≠ gb118)); clear BK101; clear BK106; clear BK107; clear BK117; clear BK118; clear HB; have BK101 := n0_; have BK106 := n1_; have BK107 := n2_; have BK117 := n3_; have BK118 := n4_; have HB := n5_; have BK122 := n6_; have GW122 := n7_; have GE122 := n8_; have NB101_122 := n9_; have NB122_101 := n10_; have NB106_122 := n11_; have NB122_106 := n12_; have NB107_122 := n13_; have NB122_107 := n14_; have NB117_122 := n15_; have NB122_117 := n16_; have NB118_122 := n17_; have NB122_118 := n18_; clear n0_ n1_ n2_ n3_ n4_ n5_ n6_ n7_ n8_ n9_ n10_ n11_ n12_ n13_ n14_ n15_ n16_ n17_ n18_; clear hb hbox hg; have hnb180 := NB122_101.out; have hnc180 := NB101_122.out; have hnb181 := NB122_106.out; have hnc181 := NB106_122.out; have hnb182 := NB122_107.out; have hnc182 := NB107_122.out; have hnb183 := NB122_117.out; have hnc183 := NB117_122.out; have hnb184 := NB122_118.out; have hnc184 := NB118_122.out; have hcz185_0 : w179.cell? ⟨gb122, 0, none⟩ = some (.int .i64 0) := (blk_cell BK122.out 0).trans rfl; have hcz185_1 : w179.cell? ⟨gb122, 1, none⟩ = some (.int .i64 0) := (blk_cell BK122.out 1).trans rfl; have hfz185_0 := blk_frozen BK122.out 0; have hfz185_1 := blk_frozen BK122.out 1; have hnb186 := NB107_101.out; have hnc186 := NB101_107.out; have hnb187 := NB107_117.out; have hnc187 := NB117_107.out; have hnb188 := NB107_118.out; have hnc188 := NB118_107.out; have hcz189_0 : w179.cell? ⟨gb107, 0, none⟩ = some (.int .i64 t104) := (blk_cell BK107.out 0).trans rfl; have hcz189_1 : w179.cell? ⟨gb107, 1, none⟩ = some (.int .i64 t105) := (blk_cell BK107.out 1).trans rfl; have hfz189_0 := blk_frozen BK107.out 0; have hfz189_1 := blk_frozen BK107.out 1) | ((with_reducible refine gate_callee (f := 18) rfl ?_); refine goesL_ (some 142) rfl rfl Try.func18 (by kernel_rfl) rfl #[.agg #[.int .i64 t104, .int .i64 t105], .int .u32 a6] rfl (by (try simp only [List.map_toArray, List.map_cons, List.map_nil]); first | done | rfl | (simp only [List.length_drop, List.length_take]; rfl)) ?_; (with_reducible refine (timeboundlaw07_inside.calls t104 t105 a6 t123 _ A163.out).mono ?_); rintro e w190 ⟨rfl, hb⟩; refine ⟨_, rfl, ?_⟩; have n0_ := Aside0.mk (blk_below (g := gb101) (o := .cells #[.int .u8 a5_0, .int .u8 a5_1] 27 (0, 0)) (by (with_reducible repeat (first | refine blk_drewN ?_ _ | refine blk_drew ?_ | refine blk_alloc ?_ _)); refine blk_far ?_ NB101_122.out _; (with_reducible repeat (first | refine blk_drewN ?_ _ | refine blk_drew ?_ | refine blk_alloc ?_ _)); refine blk_far ?_ NB101_122.out _; (with_reducible repeat (first | refine blk_drewN ?_ _ | refine blk_drew ?_ | refine blk_alloc ?_ _)); exact BK101.out) hb); have n1_ := Aside0.mk (blk_below (g := gb106) (o := .cells #[.int .i64 t102, .int .i64 t103] 23 (0, 0)) (by (with_reducible repeat (first | refine blk_drewN ?_ _ | refine blk_drew ?_ | refine blk_alloc ?_ _)); refine blk_far ?_ NB106_122.out _; (with_reducible repeat (first | refine blk_drewN ?_ _ | refine blk_drew ?_ | refine blk_alloc ?_ _)); refine blk_far ?_ NB106_122.out _; (with_reducible repeat (first | refine blk_drewN ?_ _ | refine blk_drew ?_ | refine blk_alloc ?_ _)); exact BK106.out) hb); have n2_ := Aside0.mk (blk_below (g := gb107) (o := .cells #[.int .i64 t104, .int .i64 t105] 23 (0, 0)) (by (with_reducible repeat (first | refine blk_drewN ?_ _ | refine blk_drew ?_ | refine blk_alloc ?_ _)); refine blk_far ?_ NB107_122.out _; (with_reducible repeat (first | refine blk_drewN ?_ _ | refine blk_drew ?_ | refine blk_alloc ?_ _)); refine blk_far ?_ NB107_122.out _; (with_reducible repeat (first | refine blk_drewN ?_ _ | refine blk_drew ?_ | refine blk_alloc ?_ _)); exact BK107.out) hb); have n3_ := Aside0.mk (blk_below (g := gb117) (o := .cells #[.int .i64 t113, .int .i64 t114] 23 (0, 0)) (by (with_reducible repeat (first | refine blk_drewN ?_ _ | refine blk_drew ?_ | refine blk_alloc ?_ _)); refine blk_far ?_ NB117_122.out _; (with_reducible repeat (first | refine blk_drewN ?_ _ | refine blk_drew ?_ | refine blk_alloc ?_ _)); refine blk_far ?_ NB117_122.out _; (with_reducible repeat (first | refine blk_drewN ?_ _ | refine blk_drew ?_ | refine blk_alloc ?_ _)); exact BK117.out) hb); have n4_ := Aside0.mk (blk_below (g := gb118) (o := .cells #[.int .i64 t115, .int .i64 t116] 23 (0, 0)) (by (with_reducible repeat (first | refine blk_drewN ?_ _ | refine blk_drew ?_ | refine blk_alloc ?_ _)); refine blk_far ?_ NB118_122.out _; (with_reducible repeat (first | refine blk_drewN ?_ _ | refine blk_drew ?_ | refine blk_alloc ?_ _)); refine blk_far ?_ NB118_122.out _; (with_reducible repeat (first | refine blk_drewN ?_ _ | refine blk_drew ?_ | refine blk_alloc ?_ _)); exact BK118.out) hb); have n5_ := Aside0.mk (blk_below (g := gb122) (o := .cells #[.int .i64 t119, .int .i64 ji162] 23 (0, 0)) (by (with_reducible repeat (first | refine blk_drewN ?_ _ | refine blk_drew ?_ | refine blk_alloc ?_ _)); refine blk_put (cs := #[.int .i64 t119, .int .i64 0]) ?_ 1 _ rfl; (with_reducible repeat (first | refine blk_drewN ?_ _ | refine blk_drew ?_ | refine blk_alloc ?_ _)); refine blk_put (cs := #[.int .i64 0, .int .i64 0]) ?_ 0 _ rfl; (with_reducible repeat (first | refine blk_drewN ?_ _ | refine blk_drew ?_ | refine blk_alloc ?_ _)); exact BK122.out) hb); have n6_ := Aside0.mk (below_step (by repeat (first | (with_reducible first | exact HB.out | apply below_alloc | apply pw_below_drewN | apply below_drew1 | refine below_set ?_ GE101.out | refine below_set ?_ GE106.out | refine below_set ?_ GE107.out | refine below_set ?_ GE117.out | refine below_set ?_ GE118.out | refine below_set ?_ GE122.out) | exact HB.out)) hb); clear BK101; clear BK106; clear BK107; clear BK117; clear BK118; clear BK122; clear HB; have BK101 := n0_; have BK106 := n1_; have BK107 := n2_; have BK117 := n3_; have BK118 := n4_; have BK122 := n5_; have HB := n6_; clear n0_ n1_ n2_ n3_ n4_ n5_ n6_; (try clear hb); (try clear hb2); (try clear hk); (try clear hi)) | ((with_reducible refine gate_dst (N := 25) rfl ?_); refine box_event ?hg (N := 25) ?hd (cs := #[.int .i64 0, .int .i64 0]) (t := 23) ?hr ?_; (case hd => rfl); (case hg => rfl); (case hr => first | (go_simp; done) | (go_simp; rfl)); intro gb124 hg w191 hbox hb; have n0_ := Aside0.mk (blk_below (g := gb101) (o := .cells #[.int .u8 a5_0, .int .u8 a5_1] 27 (0, 0)) (by (with_reducible repeat (first | refine blk_drewN ?_ _ | refine blk_drew ?_ | refine blk_alloc ?_ _)); exact BK101.out) hb); have n1_ := Aside0.mk (blk_below (g := gb106) (o := .cells #[.int .i64 t102, .int .i64 t103] 23 (0, 0)) (by (with_reducible repeat (first | refine blk_drewN ?_ _ | refine blk_drew ?_ | refine blk_alloc ?_ _)); exact BK106.out) hb); have n2_ := Aside0.mk (blk_below (g := gb107) (o := .cells #[.int .i64 t104, .int .i64 t105] 23 (0, 0)) (by (with_reducible repeat (first | refine blk_drewN ?_ _ | refine blk_drew ?_ | refine blk_alloc ?_ _)); exact BK107.out) hb); have n3_ := Aside0.mk (blk_below (g := gb117) (o := .cells #[.int .i64 t113, .int .i64 t114] 23 (0, 0)) (by (with_reducible repeat (first | refine blk_drewN ?_ _ | refine blk_drew ?_ | refine blk_alloc ?_ _)); exact BK117.out) hb); have n4_ := Aside0.mk (blk_below (g := gb118) (o := .cells #[.int .i64 t115, .int .i64 t116] 23 (0, 0)) (by (with_reducible repeat (first | refine blk_drewN ?_ _ | refine blk_drew ?_ | refine blk_alloc ?_ _)); exact BK118.out) hb); have n5_ := Aside0.mk (blk_below (g := gb122) (o := .cells #[.int .i64 t119, .int .i64 ji162] 23 (0, 0)) (by (with_reducible repeat (first | refine blk_drewN ?_ _ | refine blk_drew ?_ | refine blk_alloc ?_ _)); exact BK122.out) hb); have n6_ := Aside0.mk (below_step (by repeat (first | (with_reducible first | exact HB.out | apply below_alloc | apply pw_below_drewN | apply below_drew1 | refine below_set ?_ GE101.out | refine below_set ?_ GE106.out | refine below_set ?_ GE107.out | refine below_set ?_ GE117.out | refine below_set ?_ GE118.out | refine below_set ?_ GE122.out) | exact HB.out)) hb); have n7_ := Aside0.mk (hbox); have n8_ := Aside0.mk ((by rw [hg]; exact (below_size (by repeat (first | (with_reducible first | exact HB.out | apply below_alloc | apply pw_below_drewN | apply below_drew1 | refine below_set ?_ GE101.out | refine below_set ?_ GE106.out | refine below_set ?_ GE107.out | refine below_set ?_ GE117.out | refine below_set ?_ GE118.out | refine below_set ?_ GE122.out) | exact HB.out))) : w.heap.size ≤ gb124)); have n9_ := Aside0.mk ((by rw [hg]; exact (below_size (by repeat (first | (with_reducible first | exact HB.out | apply below_alloc | apply pw_below_drewN | apply below_drew1 | refine below_set ?_ GE101.out | refine below_set ?_ GE106.out | refine below_set ?_ GE107.out | refine below_set ?_ GE117.out | refine below_set ?_ GE118.out | refine below_set ?_ GE122.out) | exact HB.out))) : w.heap.size ≤ gb124)); have n10_ := Aside0.mk ((by rw [hg]; exact Nat.ne_of_lt (blk_lt (g := gb101) (o := .cells #[.int .u8 a5_0, .int .u8 a5_1] 27 (0, 0)) (by (with_reducible repeat (first | refine blk_drewN ?_ _ | refine blk_drew ?_ | refine blk_alloc ?_ _)); exact BK101.out)) : gb101 ≠ gb124)); have n11_ := Aside0.mk ((by rw [hg]; exact Nat.ne_of_gt (blk_lt (g := gb101) (o := .cells #[.int .u8 a5_0, .int .u8 a5_1] 27 (0, 0)) (by (with_reducible repeat (first | refine blk_drewN ?_ _ | refine blk_drew ?_ | refine blk_alloc ?_ _)); exact BK101.out)) : gb124 ≠ gb101)); have n12_ := Aside0.mk ((by rw [hg]; exact Nat.ne_of_lt (blk_lt (g := gb106) (o := .cells #[.int .i64 t102, .int .i64 t103] 23 (0, 0)) (by (with_reducible repeat (first | refine blk_drewN ?_ _ | refine blk_drew ?_ | refine blk_alloc ?_ _)); exact BK106.out)) : gb106 ≠ gb124)); have n13_ := Aside0.mk ((by rw [hg]; exact Nat.ne_of_gt (blk_lt (g := gb106) (o := .cells #[.int .i64 t102, .int .i64 t103] 23 (0, 0)) (by (with_reducible repeat (first | refine blk_drewN ?_ _ | refine blk_drew ?_ | refine blk_alloc ?_ _)); exact BK106.out)) : gb124 ≠ gb106)); have n14_ := Aside0.mk ((by rw [hg]; exact Nat.ne_of_lt (blk_lt (g := gb107) (o := .cells #[.int .i64 t104, .int .i64 t105] 23 (0, 0)) (by (with_reducible repeat (first | refine blk_drewN ?_ _ | refine blk_drew ?_ | refine blk_alloc ?_ _)); exact BK107.out)) : gb107 ≠ gb124)); have n15_ := Aside0.mk ((by rw [hg]; exact Nat.ne_of_gt (blk_lt (g := gb107) (o := .cells #[.int .i64 t104, .int .i64 t105] 23 (0, 0)) (by (with_reducible repeat (first | refine blk_drewN ?_ _ | refine blk_drew ?_ | refine blk_alloc ?_ _)); exact BK107.out)) : gb124 ≠ gb107)); have n16_ := Aside0.mk ((by rw [hg]; exact Nat.ne_of_lt (blk_lt (g := gb117) (o := .cells #[.int .i64 t113, .int .i64 t114] 23 (0, 0)) (by (with_reducible repeat (first | refine blk_drewN ?_ _ | refine blk_drew ?_ | refine blk_alloc ?_ _)); exact BK117.out)) : gb117 ≠ gb124)); have n17_ := Aside0.mk ((by rw [hg]; exact Nat.ne_of_gt (blk_lt (g := gb117) (o := .cells #[.int .i64 t113, .int .i64 t114] 23 (0, 0)) (by (with_reducible repeat (first | refine blk_drewN ?_ _ | refine blk_drew ?_ | refine blk_alloc ?_ _)); exact BK117.out)) : gb124 ≠ gb117)); have n18_ := Aside0.mk ((by rw [hg]; exact Nat.ne_of_lt (blk_lt (g := gb118) (o := .cells #[.int .i64 t115, .int .i64 t116] 23 (0, 0)) (by (with_reducible repeat (first | refine blk_drewN ?_ _ | refine blk_drew ?_ | refine blk_alloc ?_ _)); exact BK118.out)) : gb118 ≠ gb124)); have n19_ := Aside0.mk ((by rw [hg]; exact Nat.ne_of_gt (blk_lt (g := gb118) (o := .cells #[.int .i64 t115, .int .i64 t116] 23 (0, 0)) (by (with_reducible repeat (first | refine blk_drewN ?_ _ | refine blk_drew ?_ | refine blk_alloc ?_ _)); exact BK118.out)) : gb124 ≠ gb118)); have n20_ := Aside0.mk ((by rw [hg]; exact Nat.ne_of_lt (blk_lt (g := gb122) (o := .cells #[.int .i64 t119, .int .i64 ji162] 23 (0, 0)) (by (with_reducible repeat (first | refine blk_drewN ?_ _ | refine blk_drew ?_ | refine blk_alloc ?_ _)); exact BK122.out)) : gb122 ≠ gb124)); have n21_ := Aside0.mk ((by rw [hg]; exact Nat.ne_of_gt (blk_lt (g := gb122) (o := .cells #[.int .i64 t119, .int .i64 ji162] 23 (0, 0)) (by (with_reducible repeat (first | refine blk_drewN ?_ _ | refine blk_drew ?_ | refine blk_alloc ?_ _)); exact BK122.out)) : gb124 ≠ gb122)); clear BK101; clear BK106; clear BK107; clear BK117; clear BK118; clear BK122; clear HB; have BK101 := n0_; have BK106 := n1_; have BK107 := n2_; have BK117 := n3_; have BK118 := n4_; have BK122 := n5_; have HB := n6_; have BK124 := n7_; have GW124 := n8_; have GE124 := n9_; have NB101_124 := n10_; have NB124_101 := n11_; have NB106_124 := n12_; have NB124_106 := n13_; have NB107_124 := n14_; have NB124_107 := n15_; have NB117_124 := n16_; have NB124_117 := n17_; have NB118_124 := n18_; have NB124_118 := n19_; have NB122_124 := n20_; have NB124_122 := n21_; clear n0_ n1_ n2_ n3_ n4_ n5_ n6_ n7_ n8_ n9_ n10_ n11_ n12_ n13_ n14_ n15_ n16_ n17_ n18_ n19_ n20_ n21_; clear hb hbox hg; have hnb192 := NB124_101.out; have hnc192 := NB101_124.out; have hnb193 := NB124_106.out; have hnc193 := NB106_124.out; have hnb194 := NB124_107.out; have hnc194 := NB107_124.out; have hnb195 := NB124_117.out; have hnc195 := NB117_124.out; have hnb196 := NB124_118.out; have hnc196 := NB118_124.out; have hnb197 := NB124_122.out; have hnc197 := NB122_124.out; have hcz198_0 : w191.cell? ⟨gb124, 0, none⟩ = some (.int .i64 0) := (blk_cell BK124.out 0).trans rfl; have hcz198_1 : w191.cell? ⟨gb124, 1, none⟩ = some (.int .i64 0) := (blk_cell BK124.out 1).trans rfl; have hfz198_0 := blk_frozen BK124.out 0; have hfz198_1 := blk_frozen BK124.out 1))
                have n0_ : Aside0 (((w191.setCell ⟨gb124, 0, none⟩ (.int .i64 t120)).setCell ⟨gb124, 1, none⟩ (.int .i64 ji164)).heap[gb101]? = some (.cells #[.int .u8 a5_0, .int .u8 a5_1] 27 (0, 0))) := ⟨by (with_reducible repeat (first | refine blk_drewN ?_ _ | refine blk_drew ?_ | refine blk_alloc ?_ _)); refine blk_far ?_ NB101_124.out _; (with_reducible repeat (first | refine blk_drewN ?_ _ | refine blk_drew ?_ | refine blk_alloc ?_ _)); refine blk_far ?_ NB101_124.out _; (with_reducible repeat (first | refine blk_drewN ?_ _ | refine blk_drew ?_ | refine blk_alloc ?_ _)); exact BK101.out⟩
                have n1_ : Aside0 (((w191.setCell ⟨gb124, 0, none⟩ (.int .i64 t120)).setCell ⟨gb124, 1, none⟩ (.int .i64 ji164)).heap[gb106]? = some (.cells #[.int .i64 t102, .int .i64 t103] 23 (0, 0))) := ⟨by (with_reducible repeat (first | refine blk_drewN ?_ _ | refine blk_drew ?_ | refine blk_alloc ?_ _)); refine blk_far ?_ NB106_124.out _; (with_reducible repeat (first | refine blk_drewN ?_ _ | refine blk_drew ?_ | refine blk_alloc ?_ _)); refine blk_far ?_ NB106_124.out _; (with_reducible repeat (first | refine blk_drewN ?_ _ | refine blk_drew ?_ | refine blk_alloc ?_ _)); exact BK106.out⟩
                have n2_ : Aside0 (((w191.setCell ⟨gb124, 0, none⟩ (.int .i64 t120)).setCell ⟨gb124, 1, none⟩ (.int .i64 ji164)).heap[gb107]? = some (.cells #[.int .i64 t104, .int .i64 t105] 23 (0, 0))) := ⟨by (with_reducible repeat (first | refine blk_drewN ?_ _ | refine blk_drew ?_ | refine blk_alloc ?_ _)); refine blk_far ?_ NB107_124.out _; (with_reducible repeat (first | refine blk_drewN ?_ _ | refine blk_drew ?_ | refine blk_alloc ?_ _)); refine blk_far ?_ NB107_124.out _; (with_reducible repeat (first | refine blk_drewN ?_ _ | refine blk_drew ?_ | refine blk_alloc ?_ _)); exact BK107.out⟩
                have n3_ : Aside0 (((w191.setCell ⟨gb124, 0, none⟩ (.int .i64 t120)).setCell ⟨gb124, 1, none⟩ (.int .i64 ji164)).heap[gb117]? = some (.cells #[.int .i64 t113, .int .i64 t114] 23 (0, 0))) := ⟨by (with_reducible repeat (first | refine blk_drewN ?_ _ | refine blk_drew ?_ | refine blk_alloc ?_ _)); refine blk_far ?_ NB117_124.out _; (with_reducible repeat (first | refine blk_drewN ?_ _ | refine blk_drew ?_ | refine blk_alloc ?_ _)); refine blk_far ?_ NB117_124.out _; (with_reducible repeat (first | refine blk_drewN ?_ _ | refine blk_drew ?_ | refine blk_alloc ?_ _)); exact BK117.out⟩
                have n4_ : Aside0 (((w191.setCell ⟨gb124, 0, none⟩ (.int .i64 t120)).setCell ⟨gb124, 1, none⟩ (.int .i64 ji164)).heap[gb118]? = some (.cells #[.int .i64 t115, .int .i64 t116] 23 (0, 0))) := ⟨by (with_reducible repeat (first | refine blk_drewN ?_ _ | refine blk_drew ?_ | refine blk_alloc ?_ _)); refine blk_far ?_ NB118_124.out _; (with_reducible repeat (first | refine blk_drewN ?_ _ | refine blk_drew ?_ | refine blk_alloc ?_ _)); refine blk_far ?_ NB118_124.out _; (with_reducible repeat (first | refine blk_drewN ?_ _ | refine blk_drew ?_ | refine blk_alloc ?_ _)); exact BK118.out⟩
                have n5_ : Aside0 (((w191.setCell ⟨gb124, 0, none⟩ (.int .i64 t120)).setCell ⟨gb124, 1, none⟩ (.int .i64 ji164)).heap[gb122]? = some (.cells #[.int .i64 t119, .int .i64 ji162] 23 (0, 0))) := ⟨by (with_reducible repeat (first | refine blk_drewN ?_ _ | refine blk_drew ?_ | refine blk_alloc ?_ _)); refine blk_far ?_ NB122_124.out _; (with_reducible repeat (first | refine blk_drewN ?_ _ | refine blk_drew ?_ | refine blk_alloc ?_ _)); refine blk_far ?_ NB122_124.out _; (with_reducible repeat (first | refine blk_drewN ?_ _ | refine blk_drew ?_ | refine blk_alloc ?_ _)); exact BK122.out⟩
                have n6_ : Aside0 (((w191.setCell ⟨gb124, 0, none⟩ (.int .i64 t120)).setCell ⟨gb124, 1, none⟩ (.int .i64 ji164)).heap[gb124]? = some (.cells #[.int .i64 t120, .int .i64 ji164] 23 (0, 0))) := ⟨by (with_reducible repeat (first | refine blk_drewN ?_ _ | refine blk_drew ?_ | refine blk_alloc ?_ _)); refine blk_put (cs := #[.int .i64 t120, .int .i64 0]) ?_ 1 _ rfl; (with_reducible repeat (first | refine blk_drewN ?_ _ | refine blk_drew ?_ | refine blk_alloc ?_ _)); refine blk_put (cs := #[.int .i64 0, .int .i64 0]) ?_ 0 _ rfl; (with_reducible repeat (first | refine blk_drewN ?_ _ | refine blk_drew ?_ | refine blk_alloc ?_ _)); exact BK124.out⟩
                have n7_ : Aside0 (Below w.heap.size w ((w191.setCell ⟨gb124, 0, none⟩ (.int .i64 t120)).setCell ⟨gb124, 1, none⟩ (.int .i64 ji164))) := ⟨by repeat (first | (with_reducible first | exact HB.out | apply below_alloc | apply pw_below_drewN | apply below_drew1 | refine below_set ?_ GE101.out | refine below_set ?_ GE106.out | refine below_set ?_ GE107.out | refine below_set ?_ GE117.out | refine below_set ?_ GE118.out | refine below_set ?_ GE122.out | refine below_set ?_ GE124.out) | exact HB.out)⟩
                (try clear BK101)
                (try clear BK106)
                (try clear BK107)
                (try clear BK117)
                (try clear BK118)
                (try clear BK122)
                (try clear BK124)
                (try clear HB)
                generalize ((w191.setCell ⟨gb124, 0, none⟩ (.int .i64 t120)).setCell ⟨gb124, 1, none⟩ (.int .i64 ji164)) = w199 at n0_ n1_ n2_ n3_ n4_ n5_ n6_ n7_ ⊢
                have BK101 := n0_
                have BK106 := n1_
                have BK107 := n2_
                have BK117 := n3_
                have BK118 := n4_
                have BK122 := n5_
                have BK124 := n6_
                have HB := n7_
                clear n0_ n1_ n2_ n3_ n4_ n5_ n6_ n7_
                have n0_ := Aside0.mk (blk_drew BK101.out)
                have n1_ := Aside0.mk (blk_drew BK106.out)
                have n2_ := Aside0.mk (blk_drew BK107.out)
                have n3_ := Aside0.mk (blk_drew BK117.out)
                have n4_ := Aside0.mk (blk_drew BK118.out)
                have n5_ := Aside0.mk (blk_drew BK122.out)
                have n6_ := Aside0.mk (blk_drew BK124.out)
                have n7_ := Aside0.mk (below_drew1 HB.out)
                clear BK101
                clear BK106
                clear BK107
                clear BK117
                clear BK118
                clear BK122
                clear BK124
                clear HB
                have BK101 := n0_
                have BK106 := n1_
                have BK107 := n2_
                have BK117 := n3_
                have BK118 := n4_
                have BK122 := n5_
                have BK124 := n6_
                have HB := n7_
                clear n0_ n1_ n2_ n3_ n4_ n5_ n6_ n7_
                refine start_ (n := 13) (S := fun w' => w'.cell? ⟨gb122, 0, none⟩ = some (.int .i64 t119) ∧ w'.cell? ⟨gb122, 1, none⟩ = some (.int .i64 ji162) ∧ w'.cell? ⟨gb124, 0, none⟩ = some (.int .i64 t120) ∧ w'.cell? ⟨gb124, 1, none⟩ = some (.int .i64 ji164) ∧ w'.cell? ⟨gb106, 0, none⟩ = some (.int .i64 t102) ∧ w'.cell? ⟨gb106, 1, none⟩ = some (.int .i64 t103) ∧ w'.cell? ⟨gb107, 0, none⟩ = some (.int .i64 t104) ∧ w'.cell? ⟨gb107, 1, none⟩ = some (.int .i64 t105)) (ds := []) #[false, false, false, false, false, false, false, false, false, false, false, false, false] (by kernel_rfl) rfl rfl ⟨(blk_cell BK122.out 0).trans rfl, (blk_cell BK122.out 1).trans rfl, (blk_cell BK124.out 0).trans rfl, (blk_cell BK124.out 1).trans rfl, (blk_cell BK106.out 0).trans rfl, (blk_cell BK106.out 1).trans rfl, (blk_cell BK107.out 0).trans rfl, (blk_cell BK107.out 1).trans rfl⟩ (fun hHeld => ?_); refine with_tabW timeboundlaw07_IntervalTight.tab11 timeboundlaw07_IntervalTight.bits11 (fun HT_ HW_ => ?_)
                generalize w199.drew = w200 at BK101 BK106 BK107 BK117 BK118 BK122 BK124 HB hHeld ⊢
                refine pure_ (i := 0) (N := some 145) (v := ?_) (a' := ?_) #[true, false, false, false, false, false, false, false, false, false, false, false, false] rfl rfl (any_of HT_.out (by kernel_rfl)) (fun _ _ _ h => h) (Or.inl ⟨by rfl, ?_⟩) ?_ ?_
                rotate_left
                · intro w'
                  go_simp
                  with_reducible rfl
                rotate_left
                · simp only [Act.put, List.setIfInBounds_toArray, List.set_cons_zero, List.set_cons_succ, i64_w, i32_w]
                  rfl
                refine pure_ (i := 4) (N := some 149) (v := ?_) (a' := ?_) #[true, false, false, false, true, false, false, false, false, false, false, false, false] rfl rfl (any_of HT_.out (by kernel_rfl)) (fun _ _ _ h => h) (Or.inl ⟨by rfl, ?_⟩) ?_ ?_
                rotate_left
                · intro w'
                  go_simp
                  with_reducible rfl
                rotate_left
                · simp only [Act.put, List.setIfInBounds_toArray, List.set_cons_zero, List.set_cons_succ, i64_w, i32_w]
                  rfl
                refine take_ (i := 1) (N := some 146) (v := ?_) (a' := ?_) #[true, true, false, false, true, false, false, false, false, false, false, false, false] rfl rfl (take_ofW HT_.out HW_.out (by kernel_rfl)) (fun _ _ _ h => h) (Or.inl ⟨by rfl, ?_⟩) hHeld ?_ ?_
                rotate_left
                · rintro w' ⟨s0, s1, s2, s3, s4, s5, s6, s7⟩
                  go_simp
                  with_reducible rfl
                rotate_left
                · simp only [Act.put, List.setIfInBounds_toArray, List.set_cons_zero, List.set_cons_succ, i64_w, i32_w]
                  rfl
                refine take_ (i := 2) (N := some 147) (v := ?_) (a' := ?_) #[true, true, true, false, true, false, false, false, false, false, false, false, false] rfl rfl (take_ofW HT_.out HW_.out (by kernel_rfl)) (fun _ _ _ h => h) (Or.inl ⟨by rfl, ?_⟩) hHeld ?_ ?_
                rotate_left
                · rintro w' ⟨s0, s1, s2, s3, s4, s5, s6, s7⟩
                  go_simp
                  with_reducible rfl
                rotate_left
                · simp only [Act.put, List.setIfInBounds_toArray, List.set_cons_zero, List.set_cons_succ, i64_w, i32_w]
                  rfl
                refine take_ (i := 5) (N := some 150) (v := ?_) (a' := ?_) #[true, true, true, false, true, true, false, false, false, false, false, false, false] rfl rfl (take_ofW HT_.out HW_.out (by kernel_rfl)) (fun _ _ _ h => h) (Or.inl ⟨by rfl, ?_⟩) hHeld ?_ ?_
                rotate_left
                · rintro w' ⟨s0, s1, s2, s3, s4, s5, s6, s7⟩
                  go_simp
                  with_reducible rfl
                rotate_left
                · simp only [Act.put, List.setIfInBounds_toArray, List.set_cons_zero, List.set_cons_succ, i64_w, i32_w]
                  rfl
                refine take_ (i := 6) (N := some 151) (v := ?_) (a' := ?_) #[true, true, true, false, true, true, true, false, false, false, false, false, false] rfl rfl (take_ofW HT_.out HW_.out (by kernel_rfl)) (fun _ _ _ h => h) (Or.inl ⟨by rfl, ?_⟩) hHeld ?_ ?_
                rotate_left
                · rintro w' ⟨s0, s1, s2, s3, s4, s5, s6, s7⟩
                  go_simp
                  with_reducible rfl
                rotate_left
                · simp only [Act.put, List.setIfInBounds_toArray, List.set_cons_zero, List.set_cons_succ, i64_w, i32_w]
                  rfl
                refine one_ (i := 3) (N := some 148) #[true, true, true, true, true, true, true, false, false, false, false, false, false] rfl rfl (one_of HT_.out (by kernel_rfl)) (by decide) (fun K hK => ?_)
                refine goes_ Try.func16 (by kernel_rfl) rfl #[.int .i64 (wrap64 (1 + (Int.tmod (wrap64 (a0)) 14))), .agg #[.int .i64 t119, .int .i64 ji162], .agg #[.int .i64 t120, .int .i64 ji164]] (by rfl) rfl rfl (by (try simp only [List.map_toArray, List.map_cons, List.map_nil]); first | done | (simp only [hji162, hji164]; rfl) | rfl | (simp only [List.length_drop, List.length_take]; rfl)) ?_
                with_reducible refine (interval_Do.calls (wrap64 (1 + (Int.tmod (wrap64 (a0)) 14))) t119 ji162 t120 ji164 t125 t126 _ A165.out).mono ?_
                rintro e w201 ⟨rfl, hb⟩
                refine ⟨_, rfl, ?_⟩
                have n0_ := Aside0.mk (blk_below (g := gb101) (o := .cells #[.int .u8 a5_0, .int .u8 a5_1] 27 (0, 0)) (by (with_reducible repeat (first | refine blk_drewN ?_ _ | refine blk_drew ?_ | refine blk_alloc ?_ _)); exact BK101.out) hb)
                have n1_ := Aside0.mk (blk_below (g := gb106) (o := .cells #[.int .i64 t102, .int .i64 t103] 23 (0, 0)) (by (with_reducible repeat (first | refine blk_drewN ?_ _ | refine blk_drew ?_ | refine blk_alloc ?_ _)); exact BK106.out) hb)
                have n2_ := Aside0.mk (blk_below (g := gb107) (o := .cells #[.int .i64 t104, .int .i64 t105] 23 (0, 0)) (by (with_reducible repeat (first | refine blk_drewN ?_ _ | refine blk_drew ?_ | refine blk_alloc ?_ _)); exact BK107.out) hb)
                have n3_ := Aside0.mk (blk_below (g := gb117) (o := .cells #[.int .i64 t113, .int .i64 t114] 23 (0, 0)) (by (with_reducible repeat (first | refine blk_drewN ?_ _ | refine blk_drew ?_ | refine blk_alloc ?_ _)); exact BK117.out) hb)
                have n4_ := Aside0.mk (blk_below (g := gb118) (o := .cells #[.int .i64 t115, .int .i64 t116] 23 (0, 0)) (by (with_reducible repeat (first | refine blk_drewN ?_ _ | refine blk_drew ?_ | refine blk_alloc ?_ _)); exact BK118.out) hb)
                have n5_ := Aside0.mk (blk_below (g := gb122) (o := .cells #[.int .i64 t119, .int .i64 ji162] 23 (0, 0)) (by (with_reducible repeat (first | refine blk_drewN ?_ _ | refine blk_drew ?_ | refine blk_alloc ?_ _)); exact BK122.out) hb)
                have n6_ := Aside0.mk (blk_below (g := gb124) (o := .cells #[.int .i64 t120, .int .i64 ji164] 23 (0, 0)) (by (with_reducible repeat (first | refine blk_drewN ?_ _ | refine blk_drew ?_ | refine blk_alloc ?_ _)); exact BK124.out) hb)
                have n7_ := Aside0.mk (below_step (by repeat (first | (with_reducible first | exact HB.out | apply below_alloc | apply pw_below_drewN | apply below_drew1 | refine below_set ?_ GE101.out | refine below_set ?_ GE106.out | refine below_set ?_ GE107.out | refine below_set ?_ GE117.out | refine below_set ?_ GE118.out | refine below_set ?_ GE122.out | refine below_set ?_ GE124.out) | exact HB.out)) hb)
                clear BK101
                clear BK106
                clear BK107
                clear BK117
                clear BK118
                clear BK122
                clear BK124
                clear HB
                have BK101 := n0_
                have BK106 := n1_
                have BK107 := n2_
                have BK117 := n3_
                have BK118 := n4_
                have BK122 := n5_
                have BK124 := n6_
                have HB := n7_
                clear n0_ n1_ n2_ n3_ n4_ n5_ n6_ n7_
                (try clear hb)
                (try clear hb2)
                (try clear hk)
                (try clear hi)
                refine hK.out _ _ ⟨(blk_cell BK122.out 0).trans rfl, (blk_cell BK122.out 1).trans rfl, (blk_cell BK124.out 0).trans rfl, (blk_cell BK124.out 1).trans rfl, (blk_cell BK106.out 0).trans rfl, (blk_cell BK106.out 1).trans rfl, (blk_cell BK107.out 0).trans rfl, (blk_cell BK107.out 1).trans rfl⟩ (fun hHeld => ?_)
                clear hK K
                refine norm_ (a' := ?_) ?_ ?_
                rotate_left
                · show Act.put _ (some 148) _ = _
                  simp only [Act.put, List.setIfInBounds_toArray, List.set_cons_zero, List.set_cons_succ, i64_w, i32_w]
                  rfl
                refine one_ (i := 7) (N := some 152) #[true, true, true, true, true, true, true, true, false, false, false, false, false] rfl rfl (one_of HT_.out (by kernel_rfl)) (by decide) (fun K hK => ?_)
                refine goes_ Try.func16 (by kernel_rfl) rfl #[.int .i64 (wrap64 (1 + (Int.tmod (wrap64 (a0)) 14))), .agg #[.int .i64 t102, .int .i64 t103], .agg #[.int .i64 t104, .int .i64 t105]] (by rfl) rfl rfl (by (try simp only [List.map_toArray, List.map_cons, List.map_nil]); first | done | rfl | (simp only [List.length_drop, List.length_take]; rfl)) ?_
                with_reducible refine (interval_Do.calls (wrap64 (1 + (Int.tmod (wrap64 (a0)) 14))) t102 t103 t104 t105 t127 t128 _ A166.out).mono ?_
                rintro e w202 ⟨rfl, hb⟩
                refine ⟨_, rfl, ?_⟩
                have n0_ := Aside0.mk (blk_below (g := gb101) (o := .cells #[.int .u8 a5_0, .int .u8 a5_1] 27 (0, 0)) (by (with_reducible repeat (first | refine blk_drewN ?_ _ | refine blk_drew ?_ | refine blk_alloc ?_ _)); exact BK101.out) hb)
                have n1_ := Aside0.mk (blk_below (g := gb106) (o := .cells #[.int .i64 t102, .int .i64 t103] 23 (0, 0)) (by (with_reducible repeat (first | refine blk_drewN ?_ _ | refine blk_drew ?_ | refine blk_alloc ?_ _)); exact BK106.out) hb)
                have n2_ := Aside0.mk (blk_below (g := gb107) (o := .cells #[.int .i64 t104, .int .i64 t105] 23 (0, 0)) (by (with_reducible repeat (first | refine blk_drewN ?_ _ | refine blk_drew ?_ | refine blk_alloc ?_ _)); exact BK107.out) hb)
                have n3_ := Aside0.mk (blk_below (g := gb117) (o := .cells #[.int .i64 t113, .int .i64 t114] 23 (0, 0)) (by (with_reducible repeat (first | refine blk_drewN ?_ _ | refine blk_drew ?_ | refine blk_alloc ?_ _)); exact BK117.out) hb)
                have n4_ := Aside0.mk (blk_below (g := gb118) (o := .cells #[.int .i64 t115, .int .i64 t116] 23 (0, 0)) (by (with_reducible repeat (first | refine blk_drewN ?_ _ | refine blk_drew ?_ | refine blk_alloc ?_ _)); exact BK118.out) hb)
                have n5_ := Aside0.mk (blk_below (g := gb122) (o := .cells #[.int .i64 t119, .int .i64 ji162] 23 (0, 0)) (by (with_reducible repeat (first | refine blk_drewN ?_ _ | refine blk_drew ?_ | refine blk_alloc ?_ _)); exact BK122.out) hb)
                have n6_ := Aside0.mk (blk_below (g := gb124) (o := .cells #[.int .i64 t120, .int .i64 ji164] 23 (0, 0)) (by (with_reducible repeat (first | refine blk_drewN ?_ _ | refine blk_drew ?_ | refine blk_alloc ?_ _)); exact BK124.out) hb)
                have n7_ := Aside0.mk (below_step (by repeat (first | (with_reducible first | exact HB.out | apply below_alloc | apply pw_below_drewN | apply below_drew1 | refine below_set ?_ GE101.out | refine below_set ?_ GE106.out | refine below_set ?_ GE107.out | refine below_set ?_ GE117.out | refine below_set ?_ GE118.out | refine below_set ?_ GE122.out | refine below_set ?_ GE124.out) | exact HB.out)) hb)
                clear BK101
                clear BK106
                clear BK107
                clear BK117
                clear BK118
                clear BK122
                clear BK124
                clear HB
                have BK101 := n0_
                have BK106 := n1_
                have BK107 := n2_
                have BK117 := n3_
                have BK118 := n4_
                have BK122 := n5_
                have BK124 := n6_
                have HB := n7_
                clear n0_ n1_ n2_ n3_ n4_ n5_ n6_ n7_
                (try clear hb)
                (try clear hb2)
                (try clear hk)
                (try clear hi)
                refine hK.out _ _ ⟨(blk_cell BK122.out 0).trans rfl, (blk_cell BK122.out 1).trans rfl, (blk_cell BK124.out 0).trans rfl, (blk_cell BK124.out 1).trans rfl, (blk_cell BK106.out 0).trans rfl, (blk_cell BK106.out 1).trans rfl, (blk_cell BK107.out 0).trans rfl, (blk_cell BK107.out 1).trans rfl⟩ (fun hHeld => ?_)
                clear hK K
                refine norm_ (a' := ?_) ?_ ?_
                rotate_left
                · show Act.put _ (some 152) _ = _
                  simp only [Act.put, List.setIfInBounds_toArray, List.set_cons_zero, List.set_cons_succ, i64_w, i32_w]
                  rfl
                refine one_ (i := 8) (N := some 153) #[true, true, true, true, true, true, true, true, true, false, false, false, false] rfl rfl (one_of HT_.out (by kernel_rfl)) (by decide) (fun K hK => ?_)
                refine goes_ Try.func21 (by kernel_rfl) rfl #[.agg #[.int .i64 t125, .int .i64 t126], .agg #[.int .i64 t127, .int .i64 t128]] (by rfl) rfl rfl (by (try simp only [List.map_toArray, List.map_cons, List.map_nil]); first | done | rfl | (simp only [List.length_drop, List.length_take]; rfl)) ?_
                with_reducible refine (interval_Leq.calls t125 t126 t127 t128 true _ A167.out).mono ?_
                rintro e w203 ⟨rfl, hb⟩
                refine ⟨_, rfl, ?_⟩
                have n0_ := Aside0.mk (blk_below (g := gb101) (o := .cells #[.int .u8 a5_0, .int .u8 a5_1] 27 (0, 0)) (by (with_reducible repeat (first | refine blk_drewN ?_ _ | refine blk_drew ?_ | refine blk_alloc ?_ _)); exact BK101.out) hb)
                have n1_ := Aside0.mk (blk_below (g := gb106) (o := .cells #[.int .i64 t102, .int .i64 t103] 23 (0, 0)) (by (with_reducible repeat (first | refine blk_drewN ?_ _ | refine blk_drew ?_ | refine blk_alloc ?_ _)); exact BK106.out) hb)
                have n2_ := Aside0.mk (blk_below (g := gb107) (o := .cells #[.int .i64 t104, .int .i64 t105] 23 (0, 0)) (by (with_reducible repeat (first | refine blk_drewN ?_ _ | refine blk_drew ?_ | refine blk_alloc ?_ _)); exact BK107.out) hb)
                have n3_ := Aside0.mk (blk_below (g := gb117) (o := .cells #[.int .i64 t113, .int .i64 t114] 23 (0, 0)) (by (with_reducible repeat (first | refine blk_drewN ?_ _ | refine blk_drew ?_ | refine blk_alloc ?_ _)); exact BK117.out) hb)
                have n4_ := Aside0.mk (blk_below (g := gb118) (o := .cells #[.int .i64 t115, .int .i64 t116] 23 (0, 0)) (by (with_reducible repeat (first | refine blk_drewN ?_ _ | refine blk_drew ?_ | refine blk_alloc ?_ _)); exact BK118.out) hb)
                have n5_ := Aside0.mk (blk_below (g := gb122) (o := .cells #[.int .i64 t119, .int .i64 ji162] 23 (0, 0)) (by (with_reducible repeat (first | refine blk_drewN ?_ _ | refine blk_drew ?_ | refine blk_alloc ?_ _)); exact BK122.out) hb)
                have n6_ := Aside0.mk (blk_below (g := gb124) (o := .cells #[.int .i64 t120, .int .i64 ji164] 23 (0, 0)) (by (with_reducible repeat (first | refine blk_drewN ?_ _ | refine blk_drew ?_ | refine blk_alloc ?_ _)); exact BK124.out) hb)
                have n7_ := Aside0.mk (below_step (by repeat (first | (with_reducible first | exact HB.out | apply below_alloc | apply pw_below_drewN | apply below_drew1 | refine below_set ?_ GE101.out | refine below_set ?_ GE106.out | refine below_set ?_ GE107.out | refine below_set ?_ GE117.out | refine below_set ?_ GE118.out | refine below_set ?_ GE122.out | refine below_set ?_ GE124.out) | exact HB.out)) hb)
                clear BK101
                clear BK106
                clear BK107
                clear BK117
                clear BK118
                clear BK122
                clear BK124
                clear HB
                have BK101 := n0_
                have BK106 := n1_
                have BK107 := n2_
                have BK117 := n3_
                have BK118 := n4_
                have BK122 := n5_
                have BK124 := n6_
                have HB := n7_
                clear n0_ n1_ n2_ n3_ n4_ n5_ n6_ n7_
                (try clear hb)
                (try clear hb2)
                (try clear hk)
                (try clear hi)
                refine hK.out _ _ ⟨(blk_cell BK122.out 0).trans rfl, (blk_cell BK122.out 1).trans rfl, (blk_cell BK124.out 0).trans rfl, (blk_cell BK124.out 1).trans rfl, (blk_cell BK106.out 0).trans rfl, (blk_cell BK106.out 1).trans rfl, (blk_cell BK107.out 0).trans rfl, (blk_cell BK107.out 1).trans rfl⟩ (fun hHeld => ?_)
                clear hK K
                refine norm_ (a' := ?_) ?_ ?_
                rotate_left
                · show Act.put _ (some 153) _ = _
                  simp only [Act.put, List.setIfInBounds_toArray, List.set_cons_zero, List.set_cons_succ, i64_w, i32_w]
                  rfl
                refine pure_ (i := 9) (N := some 154) (v := ?_) (a' := ?_) #[true, true, true, true, true, true, true, true, true, true, false, false, false] rfl rfl (any_of HT_.out (by kernel_rfl)) (fun _ _ _ h => h) (Or.inl ⟨by rfl, ?_⟩) ?_ ?_
                rotate_left
                · intro w'
                  go_simp
                  with_reducible rfl
                rotate_left
                · simp only [Act.put, List.setIfInBounds_toArray, List.set_cons_zero, List.set_cons_succ, i64_w, i32_w]
                  rfl
                refine one_ (i := 10) (N := some 155) #[true, true, true, true, true, true, true, true, true, true, true, false, false] rfl rfl (one_of HT_.out (by kernel_rfl)) (by decide) (fun K hK => ?_)
                refine goes_ Try.func14 (by kernel_rfl) rfl #[] (by rfl) rfl rfl (by (try simp only [List.map_toArray, List.map_cons, List.map_nil]); first | done | rfl | (simp only [List.length_drop, List.length_take]; rfl)) ?_
                with_reducible refine (timeboundlaw07_awake.calls  t130 _ A169.out).mono ?_
                rintro e w204 ⟨rfl, hb⟩
                refine ⟨_, rfl, ?_⟩
                have n0_ := Aside0.mk (blk_below (g := gb101) (o := .cells #[.int .u8 a5_0, .int .u8 a5_1] 27 (0, 0)) (by (with_reducible repeat (first | refine blk_drewN ?_ _ | refine blk_drew ?_ | refine blk_alloc ?_ _)); exact BK101.out) hb)
                have n1_ := Aside0.mk (blk_below (g := gb106) (o := .cells #[.int .i64 t102, .int .i64 t103] 23 (0, 0)) (by (with_reducible repeat (first | refine blk_drewN ?_ _ | refine blk_drew ?_ | refine blk_alloc ?_ _)); exact BK106.out) hb)
                have n2_ := Aside0.mk (blk_below (g := gb107) (o := .cells #[.int .i64 t104, .int .i64 t105] 23 (0, 0)) (by (with_reducible repeat (first | refine blk_drewN ?_ _ | refine blk_drew ?_ | refine blk_alloc ?_ _)); exact BK107.out) hb)
                have n3_ := Aside0.mk (blk_below (g := gb117) (o := .cells #[.int .i64 t113, .int .i64 t114] 23 (0, 0)) (by (with_reducible repeat (first | refine blk_drewN ?_ _ | refine blk_drew ?_ | refine blk_alloc ?_ _)); exact BK117.out) hb)
                have n4_ := Aside0.mk (blk_below (g := gb118) (o := .cells #[.int .i64 t115, .int .i64 t116] 23 (0, 0)) (by (with_reducible repeat (first | refine blk_drewN ?_ _ | refine blk_drew ?_ | refine blk_alloc ?_ _)); exact BK118.out) hb)
                have n5_ := Aside0.mk (blk_below (g := gb122) (o := .cells #[.int .i64 t119, .int .i64 ji162] 23 (0, 0)) (by (with_reducible repeat (first | refine blk_drewN ?_ _ | refine blk_drew ?_ | refine blk_alloc ?_ _)); exact BK122.out) hb)
                have n6_ := Aside0.mk (blk_below (g := gb124) (o := .cells #[.int .i64 t120, .int .i64 ji164] 23 (0, 0)) (by (with_reducible repeat (first | refine blk_drewN ?_ _ | refine blk_drew ?_ | refine blk_alloc ?_ _)); exact BK124.out) hb)
                have n7_ := Aside0.mk (below_step (by repeat (first | (with_reducible first | exact HB.out | apply below_alloc | apply pw_below_drewN | apply below_drew1 | refine below_set ?_ GE101.out | refine below_set ?_ GE106.out | refine below_set ?_ GE107.out | refine below_set ?_ GE117.out | refine below_set ?_ GE118.out | refine below_set ?_ GE122.out | refine below_set ?_ GE124.out) | exact HB.out)) hb)
                clear BK101
                clear BK106
                clear BK107
                clear BK117
                clear BK118
                clear BK122
                clear BK124
                clear HB
                have BK101 := n0_
                have BK106 := n1_
                have BK107 := n2_
                have BK117 := n3_
                have BK118 := n4_
                have BK122 := n5_
                have BK124 := n6_
                have HB := n7_
                clear n0_ n1_ n2_ n3_ n4_ n5_ n6_ n7_
                (try clear hb)
                (try clear hb2)
                (try clear hk)
                (try clear hi)
                refine hK.out _ _ ⟨(blk_cell BK122.out 0).trans rfl, (blk_cell BK122.out 1).trans rfl, (blk_cell BK124.out 0).trans rfl, (blk_cell BK124.out 1).trans rfl, (blk_cell BK106.out 0).trans rfl, (blk_cell BK106.out 1).trans rfl, (blk_cell BK107.out 0).trans rfl, (blk_cell BK107.out 1).trans rfl⟩ (fun hHeld => ?_)
                clear hK K
                refine norm_ (a' := ?_) ?_ ?_
                rotate_left
                · show Act.put _ (some 155) _ = _
                  simp only [Act.put, List.setIfInBounds_toArray, List.set_cons_zero, List.set_cons_succ, i64_w, i32_w]
                  rfl
                refine pure_ (i := 11) (N := some 156) (v := ?_) (a' := ?_) #[true, true, true, true, true, true, true, true, true, true, true, true, false] rfl rfl (any_of HT_.out (by kernel_rfl)) (fun _ _ _ h => h) (Or.inl ⟨by rfl, ?_⟩) ?_ ?_
                rotate_left
                · intro w'
                  go_simp
                  with_reducible rfl
                rotate_left
                · simp only [Act.put, List.setIfInBounds_toArray, List.set_cons_zero, List.set_cons_succ, i64_w, i32_w]
                  rfl
                refine pure_ (i := 12) (N := some 16) (v := ?_) (a' := ?_) #[true, true, true, true, true, true, true, true, true, true, true, true, true] rfl rfl (any_of HT_.out (by kernel_rfl)) (fun _ _ _ h => h) (Or.inl ⟨by rfl, ?_⟩) ?_ ?_
                rotate_left
                · intro w'
                  go_simp
                  with_reducible rfl
                rotate_left
                · simp only [Act.put, List.setIfInBounds_toArray, List.set_cons_zero, List.set_cons_succ, i64_w, i32_w]
                  rfl
                refine done_ (done_of HT_.out (by kernel_rfl)) ?_
                try go_wp2
                go_ret
                exact ⟨by first | rfl | (simp [errW_none, errW_some] <;> rfl) | (simp only [← hji162, ← hji164]; first | rfl | (simp [errW_none, errW_some] <;> rfl)) | (simp [*, errW_none, errW_some] <;> rfl), by repeat (first | (with_reducible first | exact HB.out | apply below_alloc | apply pw_below_drewN | apply below_drew1 | refine below_set ?_ GE101.out | refine below_set ?_ GE106.out | refine below_set ?_ GE107.out | refine below_set ?_ GE117.out | refine below_set ?_ GE118.out | refine below_set ?_ GE122.out | refine below_set ?_ GE124.out) | exact HB.out)⟩
              · replace c168 := Bool.eq_false_iff.mpr c168
                subst c168
                have H1 : (none) = some r := by rw [if_neg (show ¬ (false = true) by decide)] at H; exact H
                clear H
                have H := H1
                clear H1
                exact absurd H (by simp)

end Go.Proofs.YtdooadomkifbbaaG.PTight
