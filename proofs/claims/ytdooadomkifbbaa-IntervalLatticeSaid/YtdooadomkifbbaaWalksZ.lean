/-
  The walk of IntervalLattice. Conditions: what its calls give, as the plain law shows it.
-/
import Derived.Test.YtdooadomkifbbaaPLatticex0
import Derived.Test.YtdooadomkifbbaaPLatticex1
namespace Go.Proofs.Ytdooadomkifbbaa
open Go.RowKit
theorem and_two {a b : Bool} (h : (a && b) = true) : a = true ∧ b = true := by cases a <;> cases b <;> simp_all
theorem leq_at {a b c d : Int} {v : Bool} (h : leqF a b c d = v) (w : World) : Calls Try.prog 21 #[.agg #[.int .i64 a, .int .i64 b], .agg #[.int .i64 c, .int .i64 d]] w fun e w' => e = .returned (.bool v) ∧ Below w.heap.size w w' := by
  subst h; exact leq_as rfl rfl w
theorem leq_any (a b c d : Int) (w : World) : Calls Try.prog 21 #[.agg #[.int .i64 a, .int .i64 b], .agg #[.int .i64 c, .int .i64 d]] w fun e w' => e = .returned (.bool (leqF a b c d)) ∧ Below w.heap.size w w' := leq_at rfl w
theorem join_at {a b c d x y : Int} (h : joinF a b c d = (x, y)) (w : World) : Calls Try.prog 24 #[.agg #[.int .i64 a, .int .i64 b], .agg #[.int .i64 c, .int .i64 d]] w fun e w' => e = .returned (.agg #[.int .i64 x, .int .i64 y]) ∧ Below w.heap.size w w' := by
  have e := join_as (a := a) (b := b) (c := c) (d := d) (show fixP a b = ((fixP a b).1, (fixP a b).2) from rfl) (show fixP c d = ((fixP c d).1, (fixP c d).2) from rfl) w
  unfold joinF at h
  rwa [h] at e
theorem meet_at {a b c d x y : Int} (h : meetF a b c d = (x, y)) (w : World) : Calls Try.prog 25 #[.agg #[.int .i64 a, .int .i64 b], .agg #[.int .i64 c, .int .i64 d]] w fun e w' => e = .returned (.agg #[.int .i64 x, .int .i64 y]) ∧ Below w.heap.size w w' := by
  have e := meet_as (a := a) (b := b) (c := c) (d := d) (show fixP a b = ((fixP a b).1, (fixP a b).2) from rfl) (show fixP c d = ((fixP c d).1, (fixP c d).2) from rfl) w
  unfold meetF at h
  rwa [h] at e
end Go.Proofs.Ytdooadomkifbbaa
namespace Go.Proofs.YtdooadomkifbbaaG.PLattice
open Go.RowKit Go.Proofs.YtdooadomkifbbaaW.PrintWords Go.Proofs.YtdooadomkifbbaaW.PrintLast Go.Proofs.YtdooadomkifbbaaW.PrintMore
open Go.Proofs.Ytdooadomkifbbaa (OT IB IB.below IB.drew IB.c0 IB.c1 eqI leqF joinF meetF leq_at leq_any join_at meet_at awakeL_any and_two none_any all_any o_start o_done o_off o_pure o_load o_loadoff o_one o_fork2 s_off s_call below_call eqA23)
set_option linter.unusedVariables false
set_option linter.unusedSimpArgs false
attribute [local go_sem high] eqA23
def timeboundlaw07_IntervalLattice.T1 : Bool × List (List Nat × List Nat) := (true, [([], []), ([], []), ([], []), ([2], [2]), ([0, 1, 3], [0, 1, 3]), ([], []), ([], []), ([], []), ([7], [7]), ([5, 6, 8, 4], [5, 6, 8]), ([], []), ([], []), ([], []), ([12], [12]), ([10, 11, 13, 9], [10, 11, 13]), ([], []), ([], []), ([], []), ([15, 4, 14, 0, 1, 2, 3, 4, 15, 16, 17], [4, 15]), ([16, 9, 18, 0, 1, 2, 3, 4, 5, 6, 7, 8, 9, 15, 16, 17, 18], [9, 16]), ([17, 14, 19, 0, 1, 2, 3, 4, 5, 6, 7, 8, 9, 10, 11, 12, 13, 14, 15, 16, 17, 18, 19], [14, 17])])
def timeboundlaw07_IntervalLattice.B1 : List Nat := [0, 0, 0, 4, 15, 0, 0, 0, 128, 511, 0, 0, 0, 4096, 16383, 0, 0, 0, 262143, 524287, 1048575]
theorem timeboundlaw07_IntervalLattice.tab1 : rtab .any (opsOf Try.f8 1) = timeboundlaw07_IntervalLattice.T1 := by kernel_rfl
theorem timeboundlaw07_IntervalLattice.bits1 : waitsOk timeboundlaw07_IntervalLattice.T1.2 timeboundlaw07_IntervalLattice.B1 = true := by kernel_rfl
def timeboundlaw07_IntervalLattice.T2 : Bool × List (List Nat × List Nat) := (true, [([], []), ([], []), ([0, 1], [0, 1]), ([], []), ([], []), ([3, 4, 2], [3, 4]), ([], []), ([], []), ([6, 2, 5, 0, 1, 2, 6, 7], [2, 6]), ([7, 5, 8, 0, 1, 2, 3, 4, 5, 6, 7, 8], [5, 7])])
def timeboundlaw07_IntervalLattice.B2 : List Nat := [0, 0, 3, 0, 0, 31, 0, 0, 255, 511]
theorem timeboundlaw07_IntervalLattice.tab2 : rtab .any (opsOf Try.f8 2) = timeboundlaw07_IntervalLattice.T2 := by kernel_rfl
theorem timeboundlaw07_IntervalLattice.bits2 : waitsOk timeboundlaw07_IntervalLattice.T2.2 timeboundlaw07_IntervalLattice.B2 = true := by kernel_rfl
set_option maxHeartbeats 80000000 in
set_option maxRecDepth 100000 in
theorem lattice_walk (a0 a1 a2 a3 a4 a5 a6_0 a6_1 a6_2 t102 t103 t104 t105 t106 t107 t111 t112 t113 t114 : Int) (w : World) (h8 : timeboundlaw07_of.f a0 a1 a6_0 = some (t102, t103)) (h9 : timeboundlaw07_of.f a2 a3 a6_1 = some (t104, t105)) (h10 : timeboundlaw07_of.f a4 a5 a6_2 = some (t106, t107)) (h11 : interval_Join.f t102 t103 t104 t105 = some (t111, t112)) (h12 : interval_Meet.f t102 t103 t104 t105 = some (t113, t114)) (qL1 : leqF t102 t103 t111 t112 = true) (qL2 : leqF t104 t105 t111 t112 = true) (qL3 : leqF t113 t114 t102 t103 = true) (qL4 : leqF t113 t114 t104 t105 = true) (qL5 : leqF 1 0 t102 t103 = true) (qL6 : leqF t102 t103 (-2147483648) 2147483647 = true) (qL7 : leqF t102 t103 t102 t103 = true) (qJ1 : joinF t102 t103 t104 t105 = (t111, t112)) (qJ2 : joinF t104 t105 t102 t103 = (t111, t112)) (qM1 : meetF t102 t103 t104 t105 = (t113, t114)) (qM2 : meetF t104 t105 t102 t103 = (t113, t114)) (qE1 : leqF t102 t103 t106 t107 = true → (leqF t104 t105 t106 t107 == leqF t111 t112 t106 t107) = true) (qE2 : leqF t106 t107 t102 t103 = true → (leqF t106 t107 t104 t105 == leqF t106 t107 t113 t114) = true) (qE3 : leqF t102 t103 t104 t105 = true → leqF t104 t105 t102 t103 = true → eqI t102 t103 t104 t105 = true) :
    Calls Try.prog 8 #[.int .i32 a0, .int .i32 a1, .int .i32 a2, .int .i32 a3, .int .i32 a4, .int .i32 a5, .agg #[.int .u8 a6_0, .int .u8 a6_1, .int .u8 a6_2]] w fun e w' => e = .returned (.bool true) ∧ Below w.heap.size w w' := by
  have hu43 := Try.underlying43
  have hu23 := Try.underlying23
  have HB := Aside0.mk (Below.refl w.heap.size w)
  have A8 := Aside0.mk h8; clear h8
  have A9 := Aside0.mk h9; clear h9
  have A10 := Aside0.mk h10; clear h10
  have A11 := Aside0.mk h11; clear h11
  have A12 := Aside0.mk h12; clear h12
  have L1 := Lib.hid qL1; clear qL1
  have L2 := Lib.hid qL2; clear qL2
  have L3 := Lib.hid qL3; clear qL3
  have L4 := Lib.hid qL4; clear qL4
  have L5 := Lib.hid qL5; clear qL5
  have L6 := Lib.hid qL6; clear qL6
  have L7 := Lib.hid qL7; clear qL7
  have J1 := Lib.hid qJ1; clear qJ1
  have J2 := Lib.hid qJ2; clear qJ2
  have M1 := Lib.hid qM1; clear qM1
  have M2 := Lib.hid qM2; clear qM2
  have E1 := Lib.hid qE1; clear qE1
  have E2 := Lib.hid qE2; clear qE2
  have E3 := Lib.hid qE3; clear qE3
  go_enter Try.func8, Try.ntmps8
  try go_wp2_with (first | ((with_reducible refine gate_dst (N := 13) rfl ?_); refine box_event ?hg (N := 13) ?hd (cs := #[.int .u8 a6_0, .int .u8 a6_1, .int .u8 a6_2]) (t := 43) ?hr ?_; (case hd => rfl); (case hg => rfl); (case hr => first | (go_simp; done) | (go_simp; rfl)); intro gb101 hg w28 hbox hb; have n0_ := Aside0.mk (below_step (by repeat (first | (with_reducible first | exact HB.out | apply below_alloc | apply pw_below_drewN | apply below_drew1) | exact HB.out)) hb); have n1_ := Aside0.mk (hbox); have n2_ := Aside0.mk ((by rw [hg]; exact (below_size (by repeat (first | (with_reducible first | exact HB.out | apply below_alloc | apply pw_below_drewN | apply below_drew1) | exact HB.out))) : w.heap.size ≤ gb101)); have n3_ := Aside0.mk ((by rw [hg]; exact (below_size (by repeat (first | (with_reducible first | exact HB.out | apply below_alloc | apply pw_below_drewN | apply below_drew1) | exact HB.out))) : w.heap.size ≤ gb101)); clear HB; have HB := n0_; have BK101 := n1_; have GW101 := n2_; have GE101 := n3_; clear n0_ n1_ n2_ n3_; clear hb hbox hg))
  have n0_ := Aside0.mk (blk_drew BK101.out)
  have n1_ := Aside0.mk (below_drew1 HB.out)
  clear BK101
  clear HB
  have BK101 := n0_
  have HB := n1_
  clear n0_ n1_
  refine start_ (n := 21) (S := fun w' => True) (ds := []) #[false, false, false, false, false, false, false, false, false, false, false, false, false, false, false, false, false, false, false, false, false] (by kernel_rfl) rfl rfl trivial (fun hHeld => ?_); refine with_tabW timeboundlaw07_IntervalLattice.tab1 timeboundlaw07_IntervalLattice.bits1 (fun HT_ HW_ => ?_)
  generalize w28.drew = w29 at BK101 HB hHeld ⊢
  refine pure_ (i := 0) (N := some 20) (v := ?_) (a' := ?_) #[true, false, false, false, false, false, false, false, false, false, false, false, false, false, false, false, false, false, false, false, false] rfl rfl (any_of HT_.out (by kernel_rfl)) (fun _ _ _ h => h) (Or.inl ⟨by rfl, ?_⟩) ?_ ?_
  rotate_left
  · intro w'
    go_simp
    with_reducible rfl
  rotate_left
  · simp only [Act.put, List.setIfInBounds_toArray, List.set_cons_zero, List.set_cons_succ, i64_w, i32_w]
    rfl
  refine pure_ (i := 1) (N := some 21) (v := ?_) (a' := ?_) #[true, true, false, false, false, false, false, false, false, false, false, false, false, false, false, false, false, false, false, false, false] rfl rfl (any_of HT_.out (by kernel_rfl)) (fun _ _ _ h => h) (Or.inl ⟨by rfl, ?_⟩) ?_ ?_
  rotate_left
  · intro w'
    go_simp
    with_reducible rfl
  rotate_left
  · simp only [Act.put, List.setIfInBounds_toArray, List.set_cons_zero, List.set_cons_succ, i64_w, i32_w]
    rfl
  refine pure_ (i := 5) (N := some 25) (v := ?_) (a' := ?_) #[true, true, false, false, false, true, false, false, false, false, false, false, false, false, false, false, false, false, false, false, false] rfl rfl (any_of HT_.out (by kernel_rfl)) (fun _ _ _ h => h) (Or.inl ⟨by rfl, ?_⟩) ?_ ?_
  rotate_left
  · intro w'
    go_simp
    with_reducible rfl
  rotate_left
  · simp only [Act.put, List.setIfInBounds_toArray, List.set_cons_zero, List.set_cons_succ, i64_w, i32_w]
    rfl
  refine pure_ (i := 6) (N := some 26) (v := ?_) (a' := ?_) #[true, true, false, false, false, true, true, false, false, false, false, false, false, false, false, false, false, false, false, false, false] rfl rfl (any_of HT_.out (by kernel_rfl)) (fun _ _ _ h => h) (Or.inl ⟨by rfl, ?_⟩) ?_ ?_
  rotate_left
  · intro w'
    go_simp
    with_reducible rfl
  rotate_left
  · simp only [Act.put, List.setIfInBounds_toArray, List.set_cons_zero, List.set_cons_succ, i64_w, i32_w]
    rfl
  refine pure_ (i := 10) (N := some 30) (v := ?_) (a' := ?_) #[true, true, false, false, false, true, true, false, false, false, true, false, false, false, false, false, false, false, false, false, false] rfl rfl (any_of HT_.out (by kernel_rfl)) (fun _ _ _ h => h) (Or.inl ⟨by rfl, ?_⟩) ?_ ?_
  rotate_left
  · intro w'
    go_simp
    with_reducible rfl
  rotate_left
  · simp only [Act.put, List.setIfInBounds_toArray, List.set_cons_zero, List.set_cons_succ, i64_w, i32_w]
    rfl
  refine pure_ (i := 11) (N := some 31) (v := ?_) (a' := ?_) #[true, true, false, false, false, true, true, false, false, false, true, true, false, false, false, false, false, false, false, false, false] rfl rfl (any_of HT_.out (by kernel_rfl)) (fun _ _ _ h => h) (Or.inl ⟨by rfl, ?_⟩) ?_ ?_
  rotate_left
  · intro w'
    go_simp
    with_reducible rfl
  rotate_left
  · simp only [Act.put, List.setIfInBounds_toArray, List.set_cons_zero, List.set_cons_succ, i64_w, i32_w]
    rfl
  refine inv_at [2, 3, 4, 7, 8, 9, 12, 13, 14, 15, 16, 17, 18, 19, 20] (fun a0_ b a w' => ∃ (gb108 : Nat) (gb109 : Nat) (gb110 : Nat) (m15_ : Value) (m16_ : Value) (m17_ : Value), a = putSel a0_ b [(2, 22, .pointer (some ⟨gb101, 0, none⟩)), (3, 23, .int .u8 a6_0), (4, 24, .agg #[.int .i64 t102, .int .i64 t103]), (7, 27, .pointer (some ⟨gb101, 1, none⟩)), (8, 28, .int .u8 a6_1), (9, 29, .agg #[.int .i64 t104, .int .i64 t105]), (12, 32, .pointer (some ⟨gb101, 2, none⟩)), (13, 33, .int .u8 a6_2), (14, 34, .agg #[.int .i64 t106, .int .i64 t107]), (15, 15, m15_), (16, 16, m16_), (17, 17, m17_)] ∧ (w'.heap[gb101]? = some (.cells #[.int .u8 a6_0, .int .u8 a6_1, .int .u8 a6_2] 43 (0, 0))) ∧ (Below w.heap.size w w') ∧ (b 15 = true → b 16 = true → gb109 ≠ gb108) ∧ (b 15 = true → b 16 = true → gb108 ≠ gb109) ∧ (b 15 = true → b 17 = true → gb110 ≠ gb108) ∧ (b 15 = true → b 17 = true → gb108 ≠ gb110) ∧ (b 16 = true → b 17 = true → gb110 ≠ gb109) ∧ (b 16 = true → b 17 = true → gb109 ≠ gb110) ∧ (b 15 = true → b 18 = false → w'.heap[gb108]? = some (.cells #[.int .i64 0, .int .i64 0] 23 (0, 0))) ∧ (b 15 = true → w.heap.size ≤ gb108) ∧ (b 15 = true → w.heap.size ≤ gb108) ∧ (b 15 = true → gb101 ≠ gb108) ∧ (b 15 = true → gb108 ≠ gb101) ∧ (b 16 = true → b 19 = false → w'.heap[gb109]? = some (.cells #[.int .i64 0, .int .i64 0] 23 (0, 0))) ∧ (b 16 = true → w.heap.size ≤ gb109) ∧ (b 16 = true → w.heap.size ≤ gb109) ∧ (b 16 = true → gb101 ≠ gb109) ∧ (b 16 = true → gb109 ≠ gb101) ∧ (b 17 = true → b 20 = false → w'.heap[gb110]? = some (.cells #[.int .i64 0, .int .i64 0] 23 (0, 0))) ∧ (b 17 = true → w.heap.size ≤ gb110) ∧ (b 17 = true → w.heap.size ≤ gb110) ∧ (b 17 = true → gb101 ≠ gb110) ∧ (b 17 = true → gb110 ≠ gb101) ∧ (b 18 = true → w'.heap[gb108]? = some (.cells #[.int .i64 t102, .int .i64 t103] 23 (0, 0))) ∧ (b 19 = true → w'.heap[gb109]? = some (.cells #[.int .i64 t104, .int .i64 t105] 23 (0, 0))) ∧ (b 20 = true → w'.heap[gb110]? = some (.cells #[.int .i64 t106, .int .i64 t107] 23 (0, 0))) ∧ (b 15 = true → (m15_ : Value) = .pointer (some ⟨gb108, 0, none⟩)) ∧ (b 16 = true → (m16_ : Value) = .pointer (some ⟨gb109, 0, none⟩)) ∧ (b 17 = true → (m17_ : Value) = .pointer (some ⟨gb110, 0, none⟩))) HT_.out HW_.out (by kernel_rfl) (by kernel_rfl) ?_ ?_ ?_
  · exact ⟨0, 0, 0, .bool false, .bool false, .bool false, by simp only [putSel, Bool.false_eq_true, if_false], BK101.out, HB.out, fun h_ => absurd h_ (by decide), fun h_ => absurd h_ (by decide), fun h_ => absurd h_ (by decide), fun h_ => absurd h_ (by decide), fun h_ => absurd h_ (by decide), fun h_ => absurd h_ (by decide), fun h_ => absurd h_ (by decide), fun h_ => absurd h_ (by decide), fun h_ => absurd h_ (by decide), fun h_ => absurd h_ (by decide), fun h_ => absurd h_ (by decide), fun h_ => absurd h_ (by decide), fun h_ => absurd h_ (by decide), fun h_ => absurd h_ (by decide), fun h_ => absurd h_ (by decide), fun h_ => absurd h_ (by decide), fun h_ => absurd h_ (by decide), fun h_ => absurd h_ (by decide), fun h_ => absurd h_ (by decide), fun h_ => absurd h_ (by decide), fun h_ => absurd h_ (by decide), fun h_ => absurd h_ (by decide), fun h_ => absurd h_ (by decide), fun h_ => absurd h_ (by decide), fun h_ => absurd h_ (by decide), fun h_ => absurd h_ (by decide), fun h_ => absurd h_ (by decide)⟩
  · skip
    clear BK101 HB
    refine steps_cons ?_ ?_
    · rintro b a w' ⟨gb108, gb109, gb110, m15_, m16_, m17_, ha, Q_BK101, Q_HB, Q_NB109_108, Q_NB108_109, Q_NB110_108, Q_NB108_110, Q_NB110_109, Q_NB109_110, Q_BK108, Q_GW108, Q_GE108, Q_NB101_108, Q_NB108_101, Q_BK109, Q_GW109, Q_GE109, Q_NB101_109, Q_NB109_101, Q_BK110, Q_GW110, Q_GE110, Q_NB101_110, Q_NB110_101, Q_BK108_e18, Q_BK109_e19, Q_BK110_e20, Q_X15_, Q_X16_, Q_X17_⟩ hb_ hon hoff
      refine ⟨_, rfl, fun K hK => ?_⟩
      have e13 : a.tmps[13]? = some (.pointer (some ⟨gb101, 0, none⟩)) := by rw [ha]; exact (putSel_off rfl).trans rfl
      replace ha := Aside0.mk ha
      have BK101 := Aside0.mk Q_BK101
      have HB := Aside0.mk Q_HB
      refine value_ (w1 := w') (v := .pointer (some ⟨gb101, 0, none⟩)) (by rfl) rfl ?_ ?_
      · go_simp
        (try simp only [i64_w])
        try rfl
      refine hK.out _ _ ⟨gb108, gb109, gb110, m15_, m16_, m17_, (by rw [ha.out]; exact putSel_upk 0 hb_ rfl rfl rfl), Q_BK101, Q_HB, Q_NB109_108, Q_NB108_109, Q_NB110_108, Q_NB108_110, Q_NB110_109, Q_NB109_110, Q_BK108, Q_GW108, Q_GE108, Q_NB101_108, Q_NB108_101, Q_BK109, Q_GW109, Q_GE109, Q_NB101_109, Q_NB109_101, Q_BK110, Q_GW110, Q_GE110, Q_NB101_110, Q_NB110_101, fun h0_ => absurd ((hoff 18 (by kernel_rfl)).symm.trans h0_) (by decide), fun h0_ => absurd ((hoff 19 (by kernel_rfl)).symm.trans h0_) (by decide), fun h0_ => absurd ((hoff 20 (by kernel_rfl)).symm.trans h0_) (by decide), Q_X15_, Q_X16_, Q_X17_⟩
    refine steps_cons ?_ ?_
    · rintro b a w' ⟨gb108, gb109, gb110, m15_, m16_, m17_, ha, Q_BK101, Q_HB, Q_NB109_108, Q_NB108_109, Q_NB110_108, Q_NB108_110, Q_NB110_109, Q_NB109_110, Q_BK108, Q_GW108, Q_GE108, Q_NB101_108, Q_NB108_101, Q_BK109, Q_GW109, Q_GE109, Q_NB101_109, Q_NB109_101, Q_BK110, Q_GW110, Q_GE110, Q_NB101_110, Q_NB110_101, Q_BK108_e18, Q_BK109_e19, Q_BK110_e20, Q_X15_, Q_X16_, Q_X17_⟩ hb_ hon hoff
      refine ⟨_, rfl, fun K hK => ?_⟩
      have e22 : a.tmps[22]? = some (.pointer (some ⟨gb101, 0, none⟩)) := by rw [ha]; exact putSel_on (e := (2, 22, .pointer (some ⟨gb101, 0, none⟩))) 0 rfl rfl (hon 2 (by kernel_rfl)) rfl
      replace ha := Aside0.mk ha
      have BK101 := Aside0.mk Q_BK101
      have HB := Aside0.mk Q_HB
      have hc0_ : w'.cell? ⟨gb101, 0, none⟩ = some (.int .u8 a6_0) := (blk_cell BK101.out 0).trans rfl
      have hc1_ : w'.cell? ⟨gb101, 1, none⟩ = some (.int .u8 a6_1) := (blk_cell BK101.out 1).trans rfl
      have hc2_ : w'.cell? ⟨gb101, 2, none⟩ = some (.int .u8 a6_2) := (blk_cell BK101.out 2).trans rfl
      refine value_ (w1 := w') (v := .int .u8 a6_0) (by rfl) rfl ?_ ?_
      · go_simp
        (try simp only [i64_w])
        try rfl
      refine hK.out _ _ ⟨gb108, gb109, gb110, m15_, m16_, m17_, (by rw [ha.out]; exact putSel_upk 1 hb_ rfl rfl rfl), Q_BK101, Q_HB, Q_NB109_108, Q_NB108_109, Q_NB110_108, Q_NB108_110, Q_NB110_109, Q_NB109_110, Q_BK108, Q_GW108, Q_GE108, Q_NB101_108, Q_NB108_101, Q_BK109, Q_GW109, Q_GE109, Q_NB101_109, Q_NB109_101, Q_BK110, Q_GW110, Q_GE110, Q_NB101_110, Q_NB110_101, fun h0_ => absurd ((hoff 18 (by kernel_rfl)).symm.trans h0_) (by decide), fun h0_ => absurd ((hoff 19 (by kernel_rfl)).symm.trans h0_) (by decide), fun h0_ => absurd ((hoff 20 (by kernel_rfl)).symm.trans h0_) (by decide), Q_X15_, Q_X16_, Q_X17_⟩
    refine steps_cons ?_ ?_
    · rintro b a w' ⟨gb108, gb109, gb110, m15_, m16_, m17_, ha, Q_BK101, Q_HB, Q_NB109_108, Q_NB108_109, Q_NB110_108, Q_NB108_110, Q_NB110_109, Q_NB109_110, Q_BK108, Q_GW108, Q_GE108, Q_NB101_108, Q_NB108_101, Q_BK109, Q_GW109, Q_GE109, Q_NB101_109, Q_NB109_101, Q_BK110, Q_GW110, Q_GE110, Q_NB101_110, Q_NB110_101, Q_BK108_e18, Q_BK109_e19, Q_BK110_e20, Q_X15_, Q_X16_, Q_X17_⟩ hb_ hon hoff
      refine ⟨_, rfl, fun K hK => ?_⟩
      have e20 : a.tmps[20]? = some (.int .i32 a0) := by rw [ha]; exact (putSel_off rfl).trans rfl
      have e21 : a.tmps[21]? = some (.int .i32 a1) := by rw [ha]; exact (putSel_off rfl).trans rfl
      have e23 : a.tmps[23]? = some (.int .u8 a6_0) := by rw [ha]; exact putSel_on (e := (3, 23, .int .u8 a6_0)) 1 rfl rfl (hon 3 (by kernel_rfl)) rfl
      replace ha := Aside0.mk ha
      have BK101 := Aside0.mk Q_BK101
      have HB := Aside0.mk Q_HB
      refine goes_ Try.func15 (by kernel_rfl) rfl #[.int .i32 a0, .int .i32 a1, .int .u8 a6_0] (by rfl) rfl rfl (by first | (simp only [List.map_toArray, List.map_cons, List.map_nil, Act.eval, Array.getD_eq_getD_getElem?, Option.getD_some, e20, e21, e23]; done) | (simp only [List.map_toArray, List.map_cons, List.map_nil, Act.eval, Array.getD_eq_getD_getElem?, Option.getD_some, e20, e21, e23]; rfl)) ?_
      with_reducible refine (timeboundlaw07_of.calls a0 a1 a6_0 t102 t103 _ A8.out).mono ?_
      rintro e w30 ⟨rfl, hb⟩
      refine ⟨_, rfl, ?_⟩
      have n0_ := Aside0.mk (blk_below (g := gb101) (o := .cells #[.int .u8 a6_0, .int .u8 a6_1, .int .u8 a6_2] 43 (0, 0)) (by (with_reducible repeat (first | refine blk_drewN ?_ _ | refine blk_drew ?_ | refine blk_alloc ?_ _)); exact BK101.out) hb)
      have n1_ := Aside0.mk (below_step (by repeat (first | (with_reducible first | exact HB.out | apply below_alloc | apply pw_below_drewN | apply below_drew1 | refine below_set ?_ GE101.out) | exact HB.out)) hb)
      have z_BK108 := fun (h0_ : b 15 = true) (h1_ : b 18 = false) => (show w30.heap[gb108]? = some (.cells #[.int .i64 0, .int .i64 0] 23 (0, 0)) from by first | exact (blk_below (g := gb108) (o := .cells #[.int .i64 0, .int .i64 0] 23 (0, 0)) (by (with_reducible repeat (first | refine blk_drewN ?_ _ | refine blk_drew ?_ | refine blk_alloc ?_ _)); exact (Q_BK108 h0_ h1_)) hb))
      have z_BK109 := fun (h0_ : b 16 = true) (h1_ : b 19 = false) => (show w30.heap[gb109]? = some (.cells #[.int .i64 0, .int .i64 0] 23 (0, 0)) from by first | exact (blk_below (g := gb109) (o := .cells #[.int .i64 0, .int .i64 0] 23 (0, 0)) (by (with_reducible repeat (first | refine blk_drewN ?_ _ | refine blk_drew ?_ | refine blk_alloc ?_ _)); exact (Q_BK109 h0_ h1_)) hb))
      have z_BK110 := fun (h0_ : b 17 = true) (h1_ : b 20 = false) => (show w30.heap[gb110]? = some (.cells #[.int .i64 0, .int .i64 0] 23 (0, 0)) from by first | exact (blk_below (g := gb110) (o := .cells #[.int .i64 0, .int .i64 0] 23 (0, 0)) (by (with_reducible repeat (first | refine blk_drewN ?_ _ | refine blk_drew ?_ | refine blk_alloc ?_ _)); exact (Q_BK110 h0_ h1_)) hb))
      clear BK101
      clear HB
      have BK101 := n0_
      have HB := n1_
      clear n0_ n1_
      (try clear hb)
      (try clear hb2)
      (try clear hk)
      (try clear hi)
      refine hK.out _ _ ⟨gb108, gb109, gb110, m15_, m16_, m17_, (by rw [ha.out]; exact putSel_upk 2 hb_ rfl rfl rfl), (by (with_reducible repeat (first | refine blk_drewN ?_ _ | refine blk_drew ?_ | refine blk_alloc ?_ _)); exact BK101.out), (by repeat (first | (with_reducible first | exact HB.out | apply below_alloc | apply pw_below_drewN | apply below_drew1 | refine below_set ?_ GE101.out) | exact HB.out)), Q_NB109_108, Q_NB108_109, Q_NB110_108, Q_NB108_110, Q_NB110_109, Q_NB109_110, z_BK108, Q_GW108, Q_GE108, Q_NB101_108, Q_NB108_101, z_BK109, Q_GW109, Q_GE109, Q_NB101_109, Q_NB109_101, z_BK110, Q_GW110, Q_GE110, Q_NB101_110, Q_NB110_101, fun h0_ => absurd ((hoff 18 (by kernel_rfl)).symm.trans h0_) (by decide), fun h0_ => absurd ((hoff 19 (by kernel_rfl)).symm.trans h0_) (by decide), fun h0_ => absurd ((hoff 20 (by kernel_rfl)).symm.trans h0_) (by decide), Q_X15_, Q_X16_, Q_X17_⟩
    refine steps_cons ?_ ?_
    · rintro b a w' ⟨gb108, gb109, gb110, m15_, m16_, m17_, ha, Q_BK101, Q_HB, Q_NB109_108, Q_NB108_109, Q_NB110_108, Q_NB108_110, Q_NB110_109, Q_NB109_110, Q_BK108, Q_GW108, Q_GE108, Q_NB101_108, Q_NB108_101, Q_BK109, Q_GW109, Q_GE109, Q_NB101_109, Q_NB109_101, Q_BK110, Q_GW110, Q_GE110, Q_NB101_110, Q_NB110_101, Q_BK108_e18, Q_BK109_e19, Q_BK110_e20, Q_X15_, Q_X16_, Q_X17_⟩ hb_ hon hoff
      refine ⟨_, rfl, fun K hK => ?_⟩
      have e13 : a.tmps[13]? = some (.pointer (some ⟨gb101, 0, none⟩)) := by rw [ha]; exact (putSel_off rfl).trans rfl
      replace ha := Aside0.mk ha
      have BK101 := Aside0.mk Q_BK101
      have HB := Aside0.mk Q_HB
      refine value_ (w1 := w') (v := .pointer (some ⟨gb101, 1, none⟩)) (by rfl) rfl ?_ ?_
      · go_simp
        (try simp only [i64_w])
        try rfl
      refine hK.out _ _ ⟨gb108, gb109, gb110, m15_, m16_, m17_, (by rw [ha.out]; exact putSel_upk 3 hb_ rfl rfl rfl), Q_BK101, Q_HB, Q_NB109_108, Q_NB108_109, Q_NB110_108, Q_NB108_110, Q_NB110_109, Q_NB109_110, Q_BK108, Q_GW108, Q_GE108, Q_NB101_108, Q_NB108_101, Q_BK109, Q_GW109, Q_GE109, Q_NB101_109, Q_NB109_101, Q_BK110, Q_GW110, Q_GE110, Q_NB101_110, Q_NB110_101, fun h0_ => absurd ((hoff 18 (by kernel_rfl)).symm.trans h0_) (by decide), fun h0_ => absurd ((hoff 19 (by kernel_rfl)).symm.trans h0_) (by decide), fun h0_ => absurd ((hoff 20 (by kernel_rfl)).symm.trans h0_) (by decide), Q_X15_, Q_X16_, Q_X17_⟩
    refine steps_cons ?_ ?_
    · rintro b a w' ⟨gb108, gb109, gb110, m15_, m16_, m17_, ha, Q_BK101, Q_HB, Q_NB109_108, Q_NB108_109, Q_NB110_108, Q_NB108_110, Q_NB110_109, Q_NB109_110, Q_BK108, Q_GW108, Q_GE108, Q_NB101_108, Q_NB108_101, Q_BK109, Q_GW109, Q_GE109, Q_NB101_109, Q_NB109_101, Q_BK110, Q_GW110, Q_GE110, Q_NB101_110, Q_NB110_101, Q_BK108_e18, Q_BK109_e19, Q_BK110_e20, Q_X15_, Q_X16_, Q_X17_⟩ hb_ hon hoff
      refine ⟨_, rfl, fun K hK => ?_⟩
      have e27 : a.tmps[27]? = some (.pointer (some ⟨gb101, 1, none⟩)) := by rw [ha]; exact putSel_on (e := (7, 27, .pointer (some ⟨gb101, 1, none⟩))) 3 rfl rfl (hon 7 (by kernel_rfl)) rfl
      replace ha := Aside0.mk ha
      have BK101 := Aside0.mk Q_BK101
      have HB := Aside0.mk Q_HB
      have hc0_ : w'.cell? ⟨gb101, 0, none⟩ = some (.int .u8 a6_0) := (blk_cell BK101.out 0).trans rfl
      have hc1_ : w'.cell? ⟨gb101, 1, none⟩ = some (.int .u8 a6_1) := (blk_cell BK101.out 1).trans rfl
      have hc2_ : w'.cell? ⟨gb101, 2, none⟩ = some (.int .u8 a6_2) := (blk_cell BK101.out 2).trans rfl
      refine value_ (w1 := w') (v := .int .u8 a6_1) (by rfl) rfl ?_ ?_
      · go_simp
        (try simp only [i64_w])
        try rfl
      refine hK.out _ _ ⟨gb108, gb109, gb110, m15_, m16_, m17_, (by rw [ha.out]; exact putSel_upk 4 hb_ rfl rfl rfl), Q_BK101, Q_HB, Q_NB109_108, Q_NB108_109, Q_NB110_108, Q_NB108_110, Q_NB110_109, Q_NB109_110, Q_BK108, Q_GW108, Q_GE108, Q_NB101_108, Q_NB108_101, Q_BK109, Q_GW109, Q_GE109, Q_NB101_109, Q_NB109_101, Q_BK110, Q_GW110, Q_GE110, Q_NB101_110, Q_NB110_101, fun h0_ => absurd ((hoff 18 (by kernel_rfl)).symm.trans h0_) (by decide), fun h0_ => absurd ((hoff 19 (by kernel_rfl)).symm.trans h0_) (by decide), fun h0_ => absurd ((hoff 20 (by kernel_rfl)).symm.trans h0_) (by decide), Q_X15_, Q_X16_, Q_X17_⟩
    refine steps_cons ?_ ?_
    · rintro b a w' ⟨gb108, gb109, gb110, m15_, m16_, m17_, ha, Q_BK101, Q_HB, Q_NB109_108, Q_NB108_109, Q_NB110_108, Q_NB108_110, Q_NB110_109, Q_NB109_110, Q_BK108, Q_GW108, Q_GE108, Q_NB101_108, Q_NB108_101, Q_BK109, Q_GW109, Q_GE109, Q_NB101_109, Q_NB109_101, Q_BK110, Q_GW110, Q_GE110, Q_NB101_110, Q_NB110_101, Q_BK108_e18, Q_BK109_e19, Q_BK110_e20, Q_X15_, Q_X16_, Q_X17_⟩ hb_ hon hoff
      refine ⟨_, rfl, fun K hK => ?_⟩
      have e25 : a.tmps[25]? = some (.int .i32 a2) := by rw [ha]; exact (putSel_off rfl).trans rfl
      have e26 : a.tmps[26]? = some (.int .i32 a3) := by rw [ha]; exact (putSel_off rfl).trans rfl
      have e28 : a.tmps[28]? = some (.int .u8 a6_1) := by rw [ha]; exact putSel_on (e := (8, 28, .int .u8 a6_1)) 4 rfl rfl (hon 8 (by kernel_rfl)) rfl
      replace ha := Aside0.mk ha
      have BK101 := Aside0.mk Q_BK101
      have HB := Aside0.mk Q_HB
      refine goes_ Try.func15 (by kernel_rfl) rfl #[.int .i32 a2, .int .i32 a3, .int .u8 a6_1] (by rfl) rfl rfl (by first | (simp only [List.map_toArray, List.map_cons, List.map_nil, Act.eval, Array.getD_eq_getD_getElem?, Option.getD_some, e25, e26, e28]; done) | (simp only [List.map_toArray, List.map_cons, List.map_nil, Act.eval, Array.getD_eq_getD_getElem?, Option.getD_some, e25, e26, e28]; rfl)) ?_
      with_reducible refine (timeboundlaw07_of.calls a2 a3 a6_1 t104 t105 _ A9.out).mono ?_
      rintro e w32 ⟨rfl, hb⟩
      refine ⟨_, rfl, ?_⟩
      have n0_ := Aside0.mk (blk_below (g := gb101) (o := .cells #[.int .u8 a6_0, .int .u8 a6_1, .int .u8 a6_2] 43 (0, 0)) (by (with_reducible repeat (first | refine blk_drewN ?_ _ | refine blk_drew ?_ | refine blk_alloc ?_ _)); exact BK101.out) hb)
      have n1_ := Aside0.mk (below_step (by repeat (first | (with_reducible first | exact HB.out | apply below_alloc | apply pw_below_drewN | apply below_drew1 | refine below_set ?_ GE101.out) | exact HB.out)) hb)
      have z_BK108 := fun (h0_ : b 15 = true) (h1_ : b 18 = false) => (show w32.heap[gb108]? = some (.cells #[.int .i64 0, .int .i64 0] 23 (0, 0)) from by first | exact (blk_below (g := gb108) (o := .cells #[.int .i64 0, .int .i64 0] 23 (0, 0)) (by (with_reducible repeat (first | refine blk_drewN ?_ _ | refine blk_drew ?_ | refine blk_alloc ?_ _)); exact (Q_BK108 h0_ h1_)) hb))
      have z_BK109 := fun (h0_ : b 16 = true) (h1_ : b 19 = false) => (show w32.heap[gb109]? = some (.cells #[.int .i64 0, .int .i64 0] 23 (0, 0)) from by first | exact (blk_below (g := gb109) (o := .cells #[.int .i64 0, .int .i64 0] 23 (0, 0)) (by (with_reducible repeat (first | refine blk_drewN ?_ _ | refine blk_drew ?_ | refine blk_alloc ?_ _)); exact (Q_BK109 h0_ h1_)) hb))
      have z_BK110 := fun (h0_ : b 17 = true) (h1_ : b 20 = false) => (show w32.heap[gb110]? = some (.cells #[.int .i64 0, .int .i64 0] 23 (0, 0)) from by first | exact (blk_below (g := gb110) (o := .cells #[.int .i64 0, .int .i64 0] 23 (0, 0)) (by (with_reducible repeat (first | refine blk_drewN ?_ _ | refine blk_drew ?_ | refine blk_alloc ?_ _)); exact (Q_BK110 h0_ h1_)) hb))
      clear BK101
      clear HB
      have BK101 := n0_
      have HB := n1_
      clear n0_ n1_
      (try clear hb)
      (try clear hb2)
      (try clear hk)
      (try clear hi)
      refine hK.out _ _ ⟨gb108, gb109, gb110, m15_, m16_, m17_, (by rw [ha.out]; exact putSel_upk 5 hb_ rfl rfl rfl), (by (with_reducible repeat (first | refine blk_drewN ?_ _ | refine blk_drew ?_ | refine blk_alloc ?_ _)); exact BK101.out), (by repeat (first | (with_reducible first | exact HB.out | apply below_alloc | apply pw_below_drewN | apply below_drew1 | refine below_set ?_ GE101.out) | exact HB.out)), Q_NB109_108, Q_NB108_109, Q_NB110_108, Q_NB108_110, Q_NB110_109, Q_NB109_110, z_BK108, Q_GW108, Q_GE108, Q_NB101_108, Q_NB108_101, z_BK109, Q_GW109, Q_GE109, Q_NB101_109, Q_NB109_101, z_BK110, Q_GW110, Q_GE110, Q_NB101_110, Q_NB110_101, fun h0_ => absurd ((hoff 18 (by kernel_rfl)).symm.trans h0_) (by decide), fun h0_ => absurd ((hoff 19 (by kernel_rfl)).symm.trans h0_) (by decide), fun h0_ => absurd ((hoff 20 (by kernel_rfl)).symm.trans h0_) (by decide), Q_X15_, Q_X16_, Q_X17_⟩
    refine steps_cons ?_ ?_
    · rintro b a w' ⟨gb108, gb109, gb110, m15_, m16_, m17_, ha, Q_BK101, Q_HB, Q_NB109_108, Q_NB108_109, Q_NB110_108, Q_NB108_110, Q_NB110_109, Q_NB109_110, Q_BK108, Q_GW108, Q_GE108, Q_NB101_108, Q_NB108_101, Q_BK109, Q_GW109, Q_GE109, Q_NB101_109, Q_NB109_101, Q_BK110, Q_GW110, Q_GE110, Q_NB101_110, Q_NB110_101, Q_BK108_e18, Q_BK109_e19, Q_BK110_e20, Q_X15_, Q_X16_, Q_X17_⟩ hb_ hon hoff
      refine ⟨_, rfl, fun K hK => ?_⟩
      have e13 : a.tmps[13]? = some (.pointer (some ⟨gb101, 0, none⟩)) := by rw [ha]; exact (putSel_off rfl).trans rfl
      replace ha := Aside0.mk ha
      have BK101 := Aside0.mk Q_BK101
      have HB := Aside0.mk Q_HB
      refine value_ (w1 := w') (v := .pointer (some ⟨gb101, 2, none⟩)) (by rfl) rfl ?_ ?_
      · go_simp
        (try simp only [i64_w])
        try rfl
      refine hK.out _ _ ⟨gb108, gb109, gb110, m15_, m16_, m17_, (by rw [ha.out]; exact putSel_upk 6 hb_ rfl rfl rfl), Q_BK101, Q_HB, Q_NB109_108, Q_NB108_109, Q_NB110_108, Q_NB108_110, Q_NB110_109, Q_NB109_110, Q_BK108, Q_GW108, Q_GE108, Q_NB101_108, Q_NB108_101, Q_BK109, Q_GW109, Q_GE109, Q_NB101_109, Q_NB109_101, Q_BK110, Q_GW110, Q_GE110, Q_NB101_110, Q_NB110_101, fun h0_ => absurd ((hoff 18 (by kernel_rfl)).symm.trans h0_) (by decide), fun h0_ => absurd ((hoff 19 (by kernel_rfl)).symm.trans h0_) (by decide), fun h0_ => absurd ((hoff 20 (by kernel_rfl)).symm.trans h0_) (by decide), Q_X15_, Q_X16_, Q_X17_⟩
    refine steps_cons ?_ ?_
    · rintro b a w' ⟨gb108, gb109, gb110, m15_, m16_, m17_, ha, Q_BK101, Q_HB, Q_NB109_108, Q_NB108_109, Q_NB110_108, Q_NB108_110, Q_NB110_109, Q_NB109_110, Q_BK108, Q_GW108, Q_GE108, Q_NB101_108, Q_NB108_101, Q_BK109, Q_GW109, Q_GE109, Q_NB101_109, Q_NB109_101, Q_BK110, Q_GW110, Q_GE110, Q_NB101_110, Q_NB110_101, Q_BK108_e18, Q_BK109_e19, Q_BK110_e20, Q_X15_, Q_X16_, Q_X17_⟩ hb_ hon hoff
      refine ⟨_, rfl, fun K hK => ?_⟩
      have e32 : a.tmps[32]? = some (.pointer (some ⟨gb101, 2, none⟩)) := by rw [ha]; exact putSel_on (e := (12, 32, .pointer (some ⟨gb101, 2, none⟩))) 6 rfl rfl (hon 12 (by kernel_rfl)) rfl
      replace ha := Aside0.mk ha
      have BK101 := Aside0.mk Q_BK101
      have HB := Aside0.mk Q_HB
      have hc0_ : w'.cell? ⟨gb101, 0, none⟩ = some (.int .u8 a6_0) := (blk_cell BK101.out 0).trans rfl
      have hc1_ : w'.cell? ⟨gb101, 1, none⟩ = some (.int .u8 a6_1) := (blk_cell BK101.out 1).trans rfl
      have hc2_ : w'.cell? ⟨gb101, 2, none⟩ = some (.int .u8 a6_2) := (blk_cell BK101.out 2).trans rfl
      refine value_ (w1 := w') (v := .int .u8 a6_2) (by rfl) rfl ?_ ?_
      · go_simp
        (try simp only [i64_w])
        try rfl
      refine hK.out _ _ ⟨gb108, gb109, gb110, m15_, m16_, m17_, (by rw [ha.out]; exact putSel_upk 7 hb_ rfl rfl rfl), Q_BK101, Q_HB, Q_NB109_108, Q_NB108_109, Q_NB110_108, Q_NB108_110, Q_NB110_109, Q_NB109_110, Q_BK108, Q_GW108, Q_GE108, Q_NB101_108, Q_NB108_101, Q_BK109, Q_GW109, Q_GE109, Q_NB101_109, Q_NB109_101, Q_BK110, Q_GW110, Q_GE110, Q_NB101_110, Q_NB110_101, fun h0_ => absurd ((hoff 18 (by kernel_rfl)).symm.trans h0_) (by decide), fun h0_ => absurd ((hoff 19 (by kernel_rfl)).symm.trans h0_) (by decide), fun h0_ => absurd ((hoff 20 (by kernel_rfl)).symm.trans h0_) (by decide), Q_X15_, Q_X16_, Q_X17_⟩
    refine steps_cons ?_ ?_
    · rintro b a w' ⟨gb108, gb109, gb110, m15_, m16_, m17_, ha, Q_BK101, Q_HB, Q_NB109_108, Q_NB108_109, Q_NB110_108, Q_NB108_110, Q_NB110_109, Q_NB109_110, Q_BK108, Q_GW108, Q_GE108, Q_NB101_108, Q_NB108_101, Q_BK109, Q_GW109, Q_GE109, Q_NB101_109, Q_NB109_101, Q_BK110, Q_GW110, Q_GE110, Q_NB101_110, Q_NB110_101, Q_BK108_e18, Q_BK109_e19, Q_BK110_e20, Q_X15_, Q_X16_, Q_X17_⟩ hb_ hon hoff
      refine ⟨_, rfl, fun K hK => ?_⟩
      have e30 : a.tmps[30]? = some (.int .i32 a4) := by rw [ha]; exact (putSel_off rfl).trans rfl
      have e31 : a.tmps[31]? = some (.int .i32 a5) := by rw [ha]; exact (putSel_off rfl).trans rfl
      have e33 : a.tmps[33]? = some (.int .u8 a6_2) := by rw [ha]; exact putSel_on (e := (13, 33, .int .u8 a6_2)) 7 rfl rfl (hon 13 (by kernel_rfl)) rfl
      replace ha := Aside0.mk ha
      have BK101 := Aside0.mk Q_BK101
      have HB := Aside0.mk Q_HB
      refine goes_ Try.func15 (by kernel_rfl) rfl #[.int .i32 a4, .int .i32 a5, .int .u8 a6_2] (by rfl) rfl rfl (by first | (simp only [List.map_toArray, List.map_cons, List.map_nil, Act.eval, Array.getD_eq_getD_getElem?, Option.getD_some, e30, e31, e33]; done) | (simp only [List.map_toArray, List.map_cons, List.map_nil, Act.eval, Array.getD_eq_getD_getElem?, Option.getD_some, e30, e31, e33]; rfl)) ?_
      with_reducible refine (timeboundlaw07_of.calls a4 a5 a6_2 t106 t107 _ A10.out).mono ?_
      rintro e w33 ⟨rfl, hb⟩
      refine ⟨_, rfl, ?_⟩
      have n0_ := Aside0.mk (blk_below (g := gb101) (o := .cells #[.int .u8 a6_0, .int .u8 a6_1, .int .u8 a6_2] 43 (0, 0)) (by (with_reducible repeat (first | refine blk_drewN ?_ _ | refine blk_drew ?_ | refine blk_alloc ?_ _)); exact BK101.out) hb)
      have n1_ := Aside0.mk (below_step (by repeat (first | (with_reducible first | exact HB.out | apply below_alloc | apply pw_below_drewN | apply below_drew1 | refine below_set ?_ GE101.out) | exact HB.out)) hb)
      have z_BK108 := fun (h0_ : b 15 = true) (h1_ : b 18 = false) => (show w33.heap[gb108]? = some (.cells #[.int .i64 0, .int .i64 0] 23 (0, 0)) from by first | exact (blk_below (g := gb108) (o := .cells #[.int .i64 0, .int .i64 0] 23 (0, 0)) (by (with_reducible repeat (first | refine blk_drewN ?_ _ | refine blk_drew ?_ | refine blk_alloc ?_ _)); exact (Q_BK108 h0_ h1_)) hb))
      have z_BK109 := fun (h0_ : b 16 = true) (h1_ : b 19 = false) => (show w33.heap[gb109]? = some (.cells #[.int .i64 0, .int .i64 0] 23 (0, 0)) from by first | exact (blk_below (g := gb109) (o := .cells #[.int .i64 0, .int .i64 0] 23 (0, 0)) (by (with_reducible repeat (first | refine blk_drewN ?_ _ | refine blk_drew ?_ | refine blk_alloc ?_ _)); exact (Q_BK109 h0_ h1_)) hb))
      have z_BK110 := fun (h0_ : b 17 = true) (h1_ : b 20 = false) => (show w33.heap[gb110]? = some (.cells #[.int .i64 0, .int .i64 0] 23 (0, 0)) from by first | exact (blk_below (g := gb110) (o := .cells #[.int .i64 0, .int .i64 0] 23 (0, 0)) (by (with_reducible repeat (first | refine blk_drewN ?_ _ | refine blk_drew ?_ | refine blk_alloc ?_ _)); exact (Q_BK110 h0_ h1_)) hb))
      clear BK101
      clear HB
      have BK101 := n0_
      have HB := n1_
      clear n0_ n1_
      (try clear hb)
      (try clear hb2)
      (try clear hk)
      (try clear hi)
      refine hK.out _ _ ⟨gb108, gb109, gb110, m15_, m16_, m17_, (by rw [ha.out]; exact putSel_upk 8 hb_ rfl rfl rfl), (by (with_reducible repeat (first | refine blk_drewN ?_ _ | refine blk_drew ?_ | refine blk_alloc ?_ _)); exact BK101.out), (by repeat (first | (with_reducible first | exact HB.out | apply below_alloc | apply pw_below_drewN | apply below_drew1 | refine below_set ?_ GE101.out) | exact HB.out)), Q_NB109_108, Q_NB108_109, Q_NB110_108, Q_NB108_110, Q_NB110_109, Q_NB109_110, z_BK108, Q_GW108, Q_GE108, Q_NB101_108, Q_NB108_101, z_BK109, Q_GW109, Q_GE109, Q_NB101_109, Q_NB109_101, z_BK110, Q_GW110, Q_GE110, Q_NB101_110, Q_NB110_101, fun h0_ => absurd ((hoff 18 (by kernel_rfl)).symm.trans h0_) (by decide), fun h0_ => absurd ((hoff 19 (by kernel_rfl)).symm.trans h0_) (by decide), fun h0_ => absurd ((hoff 20 (by kernel_rfl)).symm.trans h0_) (by decide), Q_X15_, Q_X16_, Q_X17_⟩
    refine steps_cons ?_ ?_
    · rintro b a w' ⟨gb108, gb109, gb110, m15_, m16_, m17_, ha, Q_BK101, Q_HB, Q_NB109_108, Q_NB108_109, Q_NB110_108, Q_NB108_110, Q_NB110_109, Q_NB109_110, Q_BK108, Q_GW108, Q_GE108, Q_NB101_108, Q_NB108_101, Q_BK109, Q_GW109, Q_GE109, Q_NB101_109, Q_NB109_101, Q_BK110, Q_GW110, Q_GE110, Q_NB101_110, Q_NB110_101, Q_BK108_e18, Q_BK109_e19, Q_BK110_e20, Q_X15_, Q_X16_, Q_X17_⟩ hb_ hon hoff
      refine ⟨_, rfl, fun K hK => ?_⟩
      replace ha := Aside0.mk ha
      have BK101 := Aside0.mk Q_BK101
      have HB := Aside0.mk Q_HB
      refine box_step ?hg (N := 15) ?hd (cs := #[.int .i64 0, .int .i64 0]) (t := 23) ?hr ?_; (case hd => rfl); (case hg => rfl); (case hr => first | (go_simp; done) | (go_simp; rfl))
      intro gb108 hg w30 hbox hb
      have n0_ := Aside0.mk (blk_below (g := gb101) (o := .cells #[.int .u8 a6_0, .int .u8 a6_1, .int .u8 a6_2] 43 (0, 0)) (by (with_reducible repeat (first | refine blk_drewN ?_ _ | refine blk_drew ?_ | refine blk_alloc ?_ _)); exact BK101.out) hb)
      have n1_ := Aside0.mk (below_step (by repeat (first | (with_reducible first | exact HB.out | apply below_alloc | apply pw_below_drewN | apply below_drew1 | refine below_set ?_ GE101.out) | exact HB.out)) hb)
      have n2_ := Aside0.mk (hbox)
      have n3_ := Aside0.mk ((by rw [hg]; exact (below_size (by repeat (first | (with_reducible first | exact HB.out | apply below_alloc | apply pw_below_drewN | apply below_drew1 | refine below_set ?_ GE101.out) | exact HB.out))) : w.heap.size ≤ gb108))
      have n4_ := Aside0.mk ((by rw [hg]; exact (below_size (by repeat (first | (with_reducible first | exact HB.out | apply below_alloc | apply pw_below_drewN | apply below_drew1 | refine below_set ?_ GE101.out) | exact HB.out))) : w.heap.size ≤ gb108))
      have n5_ := Aside0.mk ((by rw [hg]; exact Nat.ne_of_lt (blk_lt (g := gb101) (o := .cells #[.int .u8 a6_0, .int .u8 a6_1, .int .u8 a6_2] 43 (0, 0)) (by (with_reducible repeat (first | refine blk_drewN ?_ _ | refine blk_drew ?_ | refine blk_alloc ?_ _)); exact BK101.out)) : gb101 ≠ gb108))
      have n6_ := Aside0.mk ((by rw [hg]; exact Nat.ne_of_gt (blk_lt (g := gb101) (o := .cells #[.int .u8 a6_0, .int .u8 a6_1, .int .u8 a6_2] 43 (0, 0)) (by (with_reducible repeat (first | refine blk_drewN ?_ _ | refine blk_drew ?_ | refine blk_alloc ?_ _)); exact BK101.out)) : gb108 ≠ gb101))
      have z_NB109_108 := fun (h0_ : up b 15 15 = true) (h1_ : up b 15 16 = true) => (show gb109 ≠ gb108 from ((by rw [hg]; exact Nat.ne_of_lt (blk_lt (g := gb109) (o := .cells #[.int .i64 0, .int .i64 0] 23 (0, 0)) (by (with_reducible repeat (first | refine blk_drewN ?_ _ | refine blk_drew ?_ | refine blk_alloc ?_ _)); exact (Q_BK109 h1_ (hoff 19 (by kernel_rfl))))) : gb109 ≠ gb108)))
      have z_NB108_109 := fun (h0_ : up b 15 15 = true) (h1_ : up b 15 16 = true) => (show gb108 ≠ gb109 from ((by rw [hg]; exact Nat.ne_of_gt (blk_lt (g := gb109) (o := .cells #[.int .i64 0, .int .i64 0] 23 (0, 0)) (by (with_reducible repeat (first | refine blk_drewN ?_ _ | refine blk_drew ?_ | refine blk_alloc ?_ _)); exact (Q_BK109 h1_ (hoff 19 (by kernel_rfl))))) : gb108 ≠ gb109)))
      have z_NB110_108 := fun (h0_ : up b 15 15 = true) (h1_ : up b 15 17 = true) => (show gb110 ≠ gb108 from ((by rw [hg]; exact Nat.ne_of_lt (blk_lt (g := gb110) (o := .cells #[.int .i64 0, .int .i64 0] 23 (0, 0)) (by (with_reducible repeat (first | refine blk_drewN ?_ _ | refine blk_drew ?_ | refine blk_alloc ?_ _)); exact (Q_BK110 h1_ (hoff 20 (by kernel_rfl))))) : gb110 ≠ gb108)))
      have z_NB108_110 := fun (h0_ : up b 15 15 = true) (h1_ : up b 15 17 = true) => (show gb108 ≠ gb110 from ((by rw [hg]; exact Nat.ne_of_gt (blk_lt (g := gb110) (o := .cells #[.int .i64 0, .int .i64 0] 23 (0, 0)) (by (with_reducible repeat (first | refine blk_drewN ?_ _ | refine blk_drew ?_ | refine blk_alloc ?_ _)); exact (Q_BK110 h1_ (hoff 20 (by kernel_rfl))))) : gb108 ≠ gb110)))
      have z_BK109 := fun (h0_ : b 16 = true) (h1_ : b 19 = false) => (show w30.heap[gb109]? = some (.cells #[.int .i64 0, .int .i64 0] 23 (0, 0)) from by first | exact (blk_below (g := gb109) (o := .cells #[.int .i64 0, .int .i64 0] 23 (0, 0)) (by (with_reducible repeat (first | refine blk_drewN ?_ _ | refine blk_drew ?_ | refine blk_alloc ?_ _)); exact (Q_BK109 h0_ h1_)) hb))
      have z_BK110 := fun (h0_ : b 17 = true) (h1_ : b 20 = false) => (show w30.heap[gb110]? = some (.cells #[.int .i64 0, .int .i64 0] 23 (0, 0)) from by first | exact (blk_below (g := gb110) (o := .cells #[.int .i64 0, .int .i64 0] 23 (0, 0)) (by (with_reducible repeat (first | refine blk_drewN ?_ _ | refine blk_drew ?_ | refine blk_alloc ?_ _)); exact (Q_BK110 h0_ h1_)) hb))
      clear BK101
      clear HB
      have BK101 := n0_
      have HB := n1_
      have BK108 := n2_
      have GW108 := n3_
      have GE108 := n4_
      have NB101_108 := n5_
      have NB108_101 := n6_
      clear n0_ n1_ n2_ n3_ n4_ n5_ n6_
      clear hb hbox hg
      refine hK.out _ _ ⟨gb108, gb109, gb110, (.pointer (some ⟨gb108, 0, none⟩)), m16_, m17_, (by rw [ha.out]; exact putSel_upk 9 hb_ rfl rfl rfl), (by (with_reducible repeat (first | refine blk_drewN ?_ _ | refine blk_drew ?_ | refine blk_alloc ?_ _)); exact BK101.out), (by repeat (first | (with_reducible first | exact HB.out | apply below_alloc | apply pw_below_drewN | apply below_drew1 | refine below_set ?_ GE101.out | refine below_set ?_ GE108.out) | exact HB.out)), z_NB109_108, z_NB108_109, z_NB110_108, z_NB108_110, Q_NB110_109, Q_NB109_110, fun _ _ => (by (with_reducible repeat (first | refine blk_drewN ?_ _ | refine blk_drew ?_ | refine blk_alloc ?_ _)); exact BK108.out), fun _ => GW108.out, fun _ => GE108.out, fun _ => NB101_108.out, fun _ => NB108_101.out, z_BK109, Q_GW109, Q_GE109, Q_NB101_109, Q_NB109_101, z_BK110, Q_GW110, Q_GE110, Q_NB101_110, Q_NB110_101, fun h0_ => absurd ((hoff 18 (by kernel_rfl)).symm.trans h0_) (by decide), fun h0_ => absurd ((hoff 19 (by kernel_rfl)).symm.trans h0_) (by decide), fun h0_ => absurd ((hoff 20 (by kernel_rfl)).symm.trans h0_) (by decide), fun _ => rfl, Q_X16_, Q_X17_⟩
    refine steps_cons ?_ ?_
    · rintro b a w' ⟨gb108, gb109, gb110, m15_, m16_, m17_, ha, Q_BK101, Q_HB, Q_NB109_108, Q_NB108_109, Q_NB110_108, Q_NB108_110, Q_NB110_109, Q_NB109_110, Q_BK108, Q_GW108, Q_GE108, Q_NB101_108, Q_NB108_101, Q_BK109, Q_GW109, Q_GE109, Q_NB101_109, Q_NB109_101, Q_BK110, Q_GW110, Q_GE110, Q_NB101_110, Q_NB110_101, Q_BK108_e18, Q_BK109_e19, Q_BK110_e20, Q_X15_, Q_X16_, Q_X17_⟩ hb_ hon hoff
      refine ⟨_, rfl, fun K hK => ?_⟩
      replace ha := Aside0.mk ha
      have BK101 := Aside0.mk Q_BK101
      have HB := Aside0.mk Q_HB
      refine box_step ?hg (N := 16) ?hd (cs := #[.int .i64 0, .int .i64 0]) (t := 23) ?hr ?_; (case hd => rfl); (case hg => rfl); (case hr => first | (go_simp; done) | (go_simp; rfl))
      intro gb109 hg w30 hbox hb
      have n0_ := Aside0.mk (blk_below (g := gb101) (o := .cells #[.int .u8 a6_0, .int .u8 a6_1, .int .u8 a6_2] 43 (0, 0)) (by (with_reducible repeat (first | refine blk_drewN ?_ _ | refine blk_drew ?_ | refine blk_alloc ?_ _)); exact BK101.out) hb)
      have n1_ := Aside0.mk (below_step (by repeat (first | (with_reducible first | exact HB.out | apply below_alloc | apply pw_below_drewN | apply below_drew1 | refine below_set ?_ GE101.out) | exact HB.out)) hb)
      have n2_ := Aside0.mk (hbox)
      have n3_ := Aside0.mk ((by rw [hg]; exact (below_size (by repeat (first | (with_reducible first | exact HB.out | apply below_alloc | apply pw_below_drewN | apply below_drew1 | refine below_set ?_ GE101.out) | exact HB.out))) : w.heap.size ≤ gb109))
      have n4_ := Aside0.mk ((by rw [hg]; exact (below_size (by repeat (first | (with_reducible first | exact HB.out | apply below_alloc | apply pw_below_drewN | apply below_drew1 | refine below_set ?_ GE101.out) | exact HB.out))) : w.heap.size ≤ gb109))
      have n5_ := Aside0.mk ((by rw [hg]; exact Nat.ne_of_lt (blk_lt (g := gb101) (o := .cells #[.int .u8 a6_0, .int .u8 a6_1, .int .u8 a6_2] 43 (0, 0)) (by (with_reducible repeat (first | refine blk_drewN ?_ _ | refine blk_drew ?_ | refine blk_alloc ?_ _)); exact BK101.out)) : gb101 ≠ gb109))
      have n6_ := Aside0.mk ((by rw [hg]; exact Nat.ne_of_gt (blk_lt (g := gb101) (o := .cells #[.int .u8 a6_0, .int .u8 a6_1, .int .u8 a6_2] 43 (0, 0)) (by (with_reducible repeat (first | refine blk_drewN ?_ _ | refine blk_drew ?_ | refine blk_alloc ?_ _)); exact BK101.out)) : gb109 ≠ gb101))
      have z_NB109_108 := fun (h0_ : up b 16 15 = true) (h1_ : up b 16 16 = true) => (show gb109 ≠ gb108 from ((by rw [hg]; exact Nat.ne_of_gt (blk_lt (g := gb108) (o := .cells #[.int .i64 0, .int .i64 0] 23 (0, 0)) (by (with_reducible repeat (first | refine blk_drewN ?_ _ | refine blk_drew ?_ | refine blk_alloc ?_ _)); exact (Q_BK108 h0_ (hoff 18 (by kernel_rfl))))) : gb109 ≠ gb108)))
      have z_NB108_109 := fun (h0_ : up b 16 15 = true) (h1_ : up b 16 16 = true) => (show gb108 ≠ gb109 from ((by rw [hg]; exact Nat.ne_of_lt (blk_lt (g := gb108) (o := .cells #[.int .i64 0, .int .i64 0] 23 (0, 0)) (by (with_reducible repeat (first | refine blk_drewN ?_ _ | refine blk_drew ?_ | refine blk_alloc ?_ _)); exact (Q_BK108 h0_ (hoff 18 (by kernel_rfl))))) : gb108 ≠ gb109)))
      have z_NB110_109 := fun (h0_ : up b 16 16 = true) (h1_ : up b 16 17 = true) => (show gb110 ≠ gb109 from ((by rw [hg]; exact Nat.ne_of_lt (blk_lt (g := gb110) (o := .cells #[.int .i64 0, .int .i64 0] 23 (0, 0)) (by (with_reducible repeat (first | refine blk_drewN ?_ _ | refine blk_drew ?_ | refine blk_alloc ?_ _)); exact (Q_BK110 h1_ (hoff 20 (by kernel_rfl))))) : gb110 ≠ gb109)))
      have z_NB109_110 := fun (h0_ : up b 16 16 = true) (h1_ : up b 16 17 = true) => (show gb109 ≠ gb110 from ((by rw [hg]; exact Nat.ne_of_gt (blk_lt (g := gb110) (o := .cells #[.int .i64 0, .int .i64 0] 23 (0, 0)) (by (with_reducible repeat (first | refine blk_drewN ?_ _ | refine blk_drew ?_ | refine blk_alloc ?_ _)); exact (Q_BK110 h1_ (hoff 20 (by kernel_rfl))))) : gb109 ≠ gb110)))
      have z_BK108 := fun (h0_ : b 15 = true) (h1_ : b 18 = false) => (show w30.heap[gb108]? = some (.cells #[.int .i64 0, .int .i64 0] 23 (0, 0)) from by first | exact (blk_below (g := gb108) (o := .cells #[.int .i64 0, .int .i64 0] 23 (0, 0)) (by (with_reducible repeat (first | refine blk_drewN ?_ _ | refine blk_drew ?_ | refine blk_alloc ?_ _)); exact (Q_BK108 h0_ h1_)) hb))
      have z_BK110 := fun (h0_ : b 17 = true) (h1_ : b 20 = false) => (show w30.heap[gb110]? = some (.cells #[.int .i64 0, .int .i64 0] 23 (0, 0)) from by first | exact (blk_below (g := gb110) (o := .cells #[.int .i64 0, .int .i64 0] 23 (0, 0)) (by (with_reducible repeat (first | refine blk_drewN ?_ _ | refine blk_drew ?_ | refine blk_alloc ?_ _)); exact (Q_BK110 h0_ h1_)) hb))
      clear BK101
      clear HB
      have BK101 := n0_
      have HB := n1_
      have BK109 := n2_
      have GW109 := n3_
      have GE109 := n4_
      have NB101_109 := n5_
      have NB109_101 := n6_
      clear n0_ n1_ n2_ n3_ n4_ n5_ n6_
      clear hb hbox hg
      refine hK.out _ _ ⟨gb108, gb109, gb110, m15_, (.pointer (some ⟨gb109, 0, none⟩)), m17_, (by rw [ha.out]; exact putSel_upk 10 hb_ rfl rfl rfl), (by (with_reducible repeat (first | refine blk_drewN ?_ _ | refine blk_drew ?_ | refine blk_alloc ?_ _)); exact BK101.out), (by repeat (first | (with_reducible first | exact HB.out | apply below_alloc | apply pw_below_drewN | apply below_drew1 | refine below_set ?_ GE101.out | refine below_set ?_ GE109.out) | exact HB.out)), z_NB109_108, z_NB108_109, Q_NB110_108, Q_NB108_110, z_NB110_109, z_NB109_110, z_BK108, Q_GW108, Q_GE108, Q_NB101_108, Q_NB108_101, fun _ _ => (by (with_reducible repeat (first | refine blk_drewN ?_ _ | refine blk_drew ?_ | refine blk_alloc ?_ _)); exact BK109.out), fun _ => GW109.out, fun _ => GE109.out, fun _ => NB101_109.out, fun _ => NB109_101.out, z_BK110, Q_GW110, Q_GE110, Q_NB101_110, Q_NB110_101, fun h0_ => absurd ((hoff 18 (by kernel_rfl)).symm.trans h0_) (by decide), fun h0_ => absurd ((hoff 19 (by kernel_rfl)).symm.trans h0_) (by decide), fun h0_ => absurd ((hoff 20 (by kernel_rfl)).symm.trans h0_) (by decide), Q_X15_, fun _ => rfl, Q_X17_⟩
    refine steps_cons ?_ ?_
    · rintro b a w' ⟨gb108, gb109, gb110, m15_, m16_, m17_, ha, Q_BK101, Q_HB, Q_NB109_108, Q_NB108_109, Q_NB110_108, Q_NB108_110, Q_NB110_109, Q_NB109_110, Q_BK108, Q_GW108, Q_GE108, Q_NB101_108, Q_NB108_101, Q_BK109, Q_GW109, Q_GE109, Q_NB101_109, Q_NB109_101, Q_BK110, Q_GW110, Q_GE110, Q_NB101_110, Q_NB110_101, Q_BK108_e18, Q_BK109_e19, Q_BK110_e20, Q_X15_, Q_X16_, Q_X17_⟩ hb_ hon hoff
      refine ⟨_, rfl, fun K hK => ?_⟩
      replace ha := Aside0.mk ha
      have BK101 := Aside0.mk Q_BK101
      have HB := Aside0.mk Q_HB
      refine box_step ?hg (N := 17) ?hd (cs := #[.int .i64 0, .int .i64 0]) (t := 23) ?hr ?_; (case hd => rfl); (case hg => rfl); (case hr => first | (go_simp; done) | (go_simp; rfl))
      intro gb110 hg w30 hbox hb
      have n0_ := Aside0.mk (blk_below (g := gb101) (o := .cells #[.int .u8 a6_0, .int .u8 a6_1, .int .u8 a6_2] 43 (0, 0)) (by (with_reducible repeat (first | refine blk_drewN ?_ _ | refine blk_drew ?_ | refine blk_alloc ?_ _)); exact BK101.out) hb)
      have n1_ := Aside0.mk (below_step (by repeat (first | (with_reducible first | exact HB.out | apply below_alloc | apply pw_below_drewN | apply below_drew1 | refine below_set ?_ GE101.out) | exact HB.out)) hb)
      have n2_ := Aside0.mk (hbox)
      have n3_ := Aside0.mk ((by rw [hg]; exact (below_size (by repeat (first | (with_reducible first | exact HB.out | apply below_alloc | apply pw_below_drewN | apply below_drew1 | refine below_set ?_ GE101.out) | exact HB.out))) : w.heap.size ≤ gb110))
      have n4_ := Aside0.mk ((by rw [hg]; exact (below_size (by repeat (first | (with_reducible first | exact HB.out | apply below_alloc | apply pw_below_drewN | apply below_drew1 | refine below_set ?_ GE101.out) | exact HB.out))) : w.heap.size ≤ gb110))
      have n5_ := Aside0.mk ((by rw [hg]; exact Nat.ne_of_lt (blk_lt (g := gb101) (o := .cells #[.int .u8 a6_0, .int .u8 a6_1, .int .u8 a6_2] 43 (0, 0)) (by (with_reducible repeat (first | refine blk_drewN ?_ _ | refine blk_drew ?_ | refine blk_alloc ?_ _)); exact BK101.out)) : gb101 ≠ gb110))
      have n6_ := Aside0.mk ((by rw [hg]; exact Nat.ne_of_gt (blk_lt (g := gb101) (o := .cells #[.int .u8 a6_0, .int .u8 a6_1, .int .u8 a6_2] 43 (0, 0)) (by (with_reducible repeat (first | refine blk_drewN ?_ _ | refine blk_drew ?_ | refine blk_alloc ?_ _)); exact BK101.out)) : gb110 ≠ gb101))
      have z_NB110_108 := fun (h0_ : up b 17 15 = true) (h1_ : up b 17 17 = true) => (show gb110 ≠ gb108 from ((by rw [hg]; exact Nat.ne_of_gt (blk_lt (g := gb108) (o := .cells #[.int .i64 0, .int .i64 0] 23 (0, 0)) (by (with_reducible repeat (first | refine blk_drewN ?_ _ | refine blk_drew ?_ | refine blk_alloc ?_ _)); exact (Q_BK108 h0_ (hoff 18 (by kernel_rfl))))) : gb110 ≠ gb108)))
      have z_NB108_110 := fun (h0_ : up b 17 15 = true) (h1_ : up b 17 17 = true) => (show gb108 ≠ gb110 from ((by rw [hg]; exact Nat.ne_of_lt (blk_lt (g := gb108) (o := .cells #[.int .i64 0, .int .i64 0] 23 (0, 0)) (by (with_reducible repeat (first | refine blk_drewN ?_ _ | refine blk_drew ?_ | refine blk_alloc ?_ _)); exact (Q_BK108 h0_ (hoff 18 (by kernel_rfl))))) : gb108 ≠ gb110)))
      have z_NB110_109 := fun (h0_ : up b 17 16 = true) (h1_ : up b 17 17 = true) => (show gb110 ≠ gb109 from ((by rw [hg]; exact Nat.ne_of_gt (blk_lt (g := gb109) (o := .cells #[.int .i64 0, .int .i64 0] 23 (0, 0)) (by (with_reducible repeat (first | refine blk_drewN ?_ _ | refine blk_drew ?_ | refine blk_alloc ?_ _)); exact (Q_BK109 h0_ (hoff 19 (by kernel_rfl))))) : gb110 ≠ gb109)))
      have z_NB109_110 := fun (h0_ : up b 17 16 = true) (h1_ : up b 17 17 = true) => (show gb109 ≠ gb110 from ((by rw [hg]; exact Nat.ne_of_lt (blk_lt (g := gb109) (o := .cells #[.int .i64 0, .int .i64 0] 23 (0, 0)) (by (with_reducible repeat (first | refine blk_drewN ?_ _ | refine blk_drew ?_ | refine blk_alloc ?_ _)); exact (Q_BK109 h0_ (hoff 19 (by kernel_rfl))))) : gb109 ≠ gb110)))
      have z_BK108 := fun (h0_ : b 15 = true) (h1_ : b 18 = false) => (show w30.heap[gb108]? = some (.cells #[.int .i64 0, .int .i64 0] 23 (0, 0)) from by first | exact (blk_below (g := gb108) (o := .cells #[.int .i64 0, .int .i64 0] 23 (0, 0)) (by (with_reducible repeat (first | refine blk_drewN ?_ _ | refine blk_drew ?_ | refine blk_alloc ?_ _)); exact (Q_BK108 h0_ h1_)) hb))
      have z_BK109 := fun (h0_ : b 16 = true) (h1_ : b 19 = false) => (show w30.heap[gb109]? = some (.cells #[.int .i64 0, .int .i64 0] 23 (0, 0)) from by first | exact (blk_below (g := gb109) (o := .cells #[.int .i64 0, .int .i64 0] 23 (0, 0)) (by (with_reducible repeat (first | refine blk_drewN ?_ _ | refine blk_drew ?_ | refine blk_alloc ?_ _)); exact (Q_BK109 h0_ h1_)) hb))
      clear BK101
      clear HB
      have BK101 := n0_
      have HB := n1_
      have BK110 := n2_
      have GW110 := n3_
      have GE110 := n4_
      have NB101_110 := n5_
      have NB110_101 := n6_
      clear n0_ n1_ n2_ n3_ n4_ n5_ n6_
      clear hb hbox hg
      refine hK.out _ _ ⟨gb108, gb109, gb110, m15_, m16_, (.pointer (some ⟨gb110, 0, none⟩)), (by rw [ha.out]; exact putSel_upk 11 hb_ rfl rfl rfl), (by (with_reducible repeat (first | refine blk_drewN ?_ _ | refine blk_drew ?_ | refine blk_alloc ?_ _)); exact BK101.out), (by repeat (first | (with_reducible first | exact HB.out | apply below_alloc | apply pw_below_drewN | apply below_drew1 | refine below_set ?_ GE101.out | refine below_set ?_ GE110.out) | exact HB.out)), Q_NB109_108, Q_NB108_109, z_NB110_108, z_NB108_110, z_NB110_109, z_NB109_110, z_BK108, Q_GW108, Q_GE108, Q_NB101_108, Q_NB108_101, z_BK109, Q_GW109, Q_GE109, Q_NB101_109, Q_NB109_101, fun _ _ => (by (with_reducible repeat (first | refine blk_drewN ?_ _ | refine blk_drew ?_ | refine blk_alloc ?_ _)); exact BK110.out), fun _ => GW110.out, fun _ => GE110.out, fun _ => NB101_110.out, fun _ => NB110_101.out, fun h0_ => absurd ((hoff 18 (by kernel_rfl)).symm.trans h0_) (by decide), fun h0_ => absurd ((hoff 19 (by kernel_rfl)).symm.trans h0_) (by decide), fun h0_ => absurd ((hoff 20 (by kernel_rfl)).symm.trans h0_) (by decide), Q_X15_, Q_X16_, fun _ => rfl⟩
    refine steps_cons ?_ ?_
    · rintro b a w' ⟨gb108, gb109, gb110, m15_, m16_, m17_, ha, Q_BK101, Q_HB, Q_NB109_108, Q_NB108_109, Q_NB110_108, Q_NB108_110, Q_NB110_109, Q_NB109_110, Q_BK108, Q_GW108, Q_GE108, Q_NB101_108, Q_NB108_101, Q_BK109, Q_GW109, Q_GE109, Q_NB101_109, Q_NB109_101, Q_BK110, Q_GW110, Q_GE110, Q_NB101_110, Q_NB110_101, Q_BK108_e18, Q_BK109_e19, Q_BK110_e20, Q_X15_, Q_X16_, Q_X17_⟩ hb_ hon hoff
      refine ⟨_, rfl, fun K hK => ?_⟩
      have e15 : a.tmps[15]? = some (m15_) := by rw [ha]; exact putSel_on (e := (15, 15, m15_)) 9 rfl rfl (hon 15 (by kernel_rfl)) rfl
      rw [Q_X15_ (hon 15 (by kernel_rfl))] at e15
      have e24 : a.tmps[24]? = some (.agg #[.int .i64 t102, .int .i64 t103]) := by rw [ha]; exact putSel_on (e := (4, 24, .agg #[.int .i64 t102, .int .i64 t103])) 2 rfl rfl (hon 4 (by kernel_rfl)) rfl
      replace ha := Aside0.mk ha
      have BK101 := Aside0.mk Q_BK101
      have HB := Aside0.mk Q_HB
      have NB109_108 := Aside0.mk (Q_NB109_108 (hon 15 (by kernel_rfl)) (hon 16 (by kernel_rfl)))
      have NB108_109 := Aside0.mk (Q_NB108_109 (hon 15 (by kernel_rfl)) (hon 16 (by kernel_rfl)))
      have NB110_108 := Aside0.mk (Q_NB110_108 (hon 15 (by kernel_rfl)) (hon 17 (by kernel_rfl)))
      have NB108_110 := Aside0.mk (Q_NB108_110 (hon 15 (by kernel_rfl)) (hon 17 (by kernel_rfl)))
      have NB110_109 := Aside0.mk (Q_NB110_109 (hon 16 (by kernel_rfl)) (hon 17 (by kernel_rfl)))
      have NB109_110 := Aside0.mk (Q_NB109_110 (hon 16 (by kernel_rfl)) (hon 17 (by kernel_rfl)))
      have BK108 := Aside0.mk (Q_BK108 (hon 15 (by kernel_rfl)) hb_)
      have GW108 := Aside0.mk (Q_GW108 (hon 15 (by kernel_rfl)))
      have GE108 := Aside0.mk (Q_GE108 (hon 15 (by kernel_rfl)))
      have NB101_108 := Aside0.mk (Q_NB101_108 (hon 15 (by kernel_rfl)))
      have NB108_101 := Aside0.mk (Q_NB108_101 (hon 15 (by kernel_rfl)))
      have BK109 := Aside0.mk (Q_BK109 (hon 16 (by kernel_rfl)) (hoff 19 (by kernel_rfl)))
      have GW109 := Aside0.mk (Q_GW109 (hon 16 (by kernel_rfl)))
      have GE109 := Aside0.mk (Q_GE109 (hon 16 (by kernel_rfl)))
      have NB101_109 := Aside0.mk (Q_NB101_109 (hon 16 (by kernel_rfl)))
      have NB109_101 := Aside0.mk (Q_NB109_101 (hon 16 (by kernel_rfl)))
      have BK110 := Aside0.mk (Q_BK110 (hon 17 (by kernel_rfl)) (hoff 20 (by kernel_rfl)))
      have GW110 := Aside0.mk (Q_GW110 (hon 17 (by kernel_rfl)))
      have GE110 := Aside0.mk (Q_GE110 (hon 17 (by kernel_rfl)))
      have NB101_110 := Aside0.mk (Q_NB101_110 (hon 17 (by kernel_rfl)))
      have NB110_101 := Aside0.mk (Q_NB110_101 (hon 17 (by kernel_rfl)))
      have hs37 : w'.cell? ⟨gb108, 0, none⟩ = some (.int .i64 0) := (blk_cell BK108.out 0).trans rfl
      have hfs37 := blk_frozen BK108.out 0
      have hns37_0 := NB101_108.out
      have hns37_2 := NB109_108.out
      have hns37_3 := NB110_108.out
      have hms37_0 := NB108_101.out
      have hms37_2 := NB108_109.out
      have hms37_3 := NB108_110.out
      have hs38 : w'.cell? ⟨gb108, 1, none⟩ = some (.int .i64 0) := (blk_cell BK108.out 1).trans rfl
      have hfs38 := blk_frozen BK108.out 1
      have hns38_0 := NB101_108.out
      have hns38_2 := NB109_108.out
      have hns38_3 := NB110_108.out
      have hms38_0 := NB108_101.out
      have hms38_2 := NB108_109.out
      have hms38_3 := NB108_110.out
      refine skip_ (w1 := ?_) (by rfl) rfl ?_ ?_
      rotate_left
      · go_simp
        rfl
      refine hK.out _ _ ⟨gb108, gb109, gb110, m15_, m16_, m17_, (by rw [ha.out]; exact putSel_none (v := undef) rfl), (by (with_reducible repeat (first | refine blk_drewN ?_ _ | refine blk_drew ?_ | refine blk_alloc ?_ _)); refine blk_far ?_ NB101_108.out _; (with_reducible repeat (first | refine blk_drewN ?_ _ | refine blk_drew ?_ | refine blk_alloc ?_ _)); refine blk_far ?_ NB101_108.out _; (with_reducible repeat (first | refine blk_drewN ?_ _ | refine blk_drew ?_ | refine blk_alloc ?_ _)); exact BK101.out), (by repeat (first | (with_reducible first | exact HB.out | apply below_alloc | apply pw_below_drewN | apply below_drew1 | refine below_set ?_ GE101.out | refine below_set ?_ GE108.out | refine below_set ?_ GE109.out | refine below_set ?_ GE110.out) | exact HB.out)), fun _ _ => NB109_108.out, fun _ _ => NB108_109.out, fun _ _ => NB110_108.out, fun _ _ => NB108_110.out, fun _ _ => NB110_109.out, fun _ _ => NB109_110.out, fun _ h1_ => absurd ((up_self b 18).symm.trans h1_) (by decide), fun _ => GW108.out, fun _ => GE108.out, fun _ => NB101_108.out, fun _ => NB108_101.out, fun _ _ => (by (with_reducible repeat (first | refine blk_drewN ?_ _ | refine blk_drew ?_ | refine blk_alloc ?_ _)); refine blk_far ?_ NB109_108.out _; (with_reducible repeat (first | refine blk_drewN ?_ _ | refine blk_drew ?_ | refine blk_alloc ?_ _)); refine blk_far ?_ NB109_108.out _; (with_reducible repeat (first | refine blk_drewN ?_ _ | refine blk_drew ?_ | refine blk_alloc ?_ _)); exact BK109.out), fun _ => GW109.out, fun _ => GE109.out, fun _ => NB101_109.out, fun _ => NB109_101.out, fun _ _ => (by (with_reducible repeat (first | refine blk_drewN ?_ _ | refine blk_drew ?_ | refine blk_alloc ?_ _)); refine blk_far ?_ NB110_108.out _; (with_reducible repeat (first | refine blk_drewN ?_ _ | refine blk_drew ?_ | refine blk_alloc ?_ _)); refine blk_far ?_ NB110_108.out _; (with_reducible repeat (first | refine blk_drewN ?_ _ | refine blk_drew ?_ | refine blk_alloc ?_ _)); exact BK110.out), fun _ => GW110.out, fun _ => GE110.out, fun _ => NB101_110.out, fun _ => NB110_101.out, fun _ => (by (with_reducible repeat (first | refine blk_drewN ?_ _ | refine blk_drew ?_ | refine blk_alloc ?_ _)); refine blk_put (cs := #[.int .i64 t102, .int .i64 0]) ?_ 1 _ rfl; (with_reducible repeat (first | refine blk_drewN ?_ _ | refine blk_drew ?_ | refine blk_alloc ?_ _)); refine blk_put (cs := #[.int .i64 0, .int .i64 0]) ?_ 0 _ rfl; (with_reducible repeat (first | refine blk_drewN ?_ _ | refine blk_drew ?_ | refine blk_alloc ?_ _)); exact BK108.out), fun h0_ => absurd ((hoff 19 (by kernel_rfl)).symm.trans h0_) (by decide), fun h0_ => absurd ((hoff 20 (by kernel_rfl)).symm.trans h0_) (by decide), Q_X15_, Q_X16_, Q_X17_⟩
    refine steps_cons ?_ ?_
    · rintro b a w' ⟨gb108, gb109, gb110, m15_, m16_, m17_, ha, Q_BK101, Q_HB, Q_NB109_108, Q_NB108_109, Q_NB110_108, Q_NB108_110, Q_NB110_109, Q_NB109_110, Q_BK108, Q_GW108, Q_GE108, Q_NB101_108, Q_NB108_101, Q_BK109, Q_GW109, Q_GE109, Q_NB101_109, Q_NB109_101, Q_BK110, Q_GW110, Q_GE110, Q_NB101_110, Q_NB110_101, Q_BK108_e18, Q_BK109_e19, Q_BK110_e20, Q_X15_, Q_X16_, Q_X17_⟩ hb_ hon hoff
      refine ⟨_, rfl, fun K hK => ?_⟩
      have e16 : a.tmps[16]? = some (m16_) := by rw [ha]; exact putSel_on (e := (16, 16, m16_)) 10 rfl rfl (hon 16 (by kernel_rfl)) rfl
      rw [Q_X16_ (hon 16 (by kernel_rfl))] at e16
      have e29 : a.tmps[29]? = some (.agg #[.int .i64 t104, .int .i64 t105]) := by rw [ha]; exact putSel_on (e := (9, 29, .agg #[.int .i64 t104, .int .i64 t105])) 5 rfl rfl (hon 9 (by kernel_rfl)) rfl
      replace ha := Aside0.mk ha
      have BK101 := Aside0.mk Q_BK101
      have HB := Aside0.mk Q_HB
      have NB109_108 := Aside0.mk (Q_NB109_108 (hon 15 (by kernel_rfl)) (hon 16 (by kernel_rfl)))
      have NB108_109 := Aside0.mk (Q_NB108_109 (hon 15 (by kernel_rfl)) (hon 16 (by kernel_rfl)))
      have NB110_108 := Aside0.mk (Q_NB110_108 (hon 15 (by kernel_rfl)) (hon 17 (by kernel_rfl)))
      have NB108_110 := Aside0.mk (Q_NB108_110 (hon 15 (by kernel_rfl)) (hon 17 (by kernel_rfl)))
      have NB110_109 := Aside0.mk (Q_NB110_109 (hon 16 (by kernel_rfl)) (hon 17 (by kernel_rfl)))
      have NB109_110 := Aside0.mk (Q_NB109_110 (hon 16 (by kernel_rfl)) (hon 17 (by kernel_rfl)))
      have GW108 := Aside0.mk (Q_GW108 (hon 15 (by kernel_rfl)))
      have GE108 := Aside0.mk (Q_GE108 (hon 15 (by kernel_rfl)))
      have NB101_108 := Aside0.mk (Q_NB101_108 (hon 15 (by kernel_rfl)))
      have NB108_101 := Aside0.mk (Q_NB108_101 (hon 15 (by kernel_rfl)))
      have BK109 := Aside0.mk (Q_BK109 (hon 16 (by kernel_rfl)) hb_)
      have GW109 := Aside0.mk (Q_GW109 (hon 16 (by kernel_rfl)))
      have GE109 := Aside0.mk (Q_GE109 (hon 16 (by kernel_rfl)))
      have NB101_109 := Aside0.mk (Q_NB101_109 (hon 16 (by kernel_rfl)))
      have NB109_101 := Aside0.mk (Q_NB109_101 (hon 16 (by kernel_rfl)))
      have BK110 := Aside0.mk (Q_BK110 (hon 17 (by kernel_rfl)) (hoff 20 (by kernel_rfl)))
      have GW110 := Aside0.mk (Q_GW110 (hon 17 (by kernel_rfl)))
      have GE110 := Aside0.mk (Q_GE110 (hon 17 (by kernel_rfl)))
      have NB101_110 := Aside0.mk (Q_NB101_110 (hon 17 (by kernel_rfl)))
      have NB110_101 := Aside0.mk (Q_NB110_101 (hon 17 (by kernel_rfl)))
      have BK108 := Aside0.mk (Q_BK108_e18 (hon 18 (by kernel_rfl)))
      have hs39 : w'.cell? ⟨gb109, 0, none⟩ = some (.int .i64 0) := (blk_cell BK109.out 0).trans rfl
      have hfs39 := blk_frozen BK109.out 0
      have hns39_0 := NB101_109.out
      have hns39_1 := NB108_109.out
      have hns39_3 := NB110_109.out
      have hms39_0 := NB109_101.out
      have hms39_1 := NB109_108.out
      have hms39_3 := NB109_110.out
      have hs40 : w'.cell? ⟨gb109, 1, none⟩ = some (.int .i64 0) := (blk_cell BK109.out 1).trans rfl
      have hfs40 := blk_frozen BK109.out 1
      have hns40_0 := NB101_109.out
      have hns40_1 := NB108_109.out
      have hns40_3 := NB110_109.out
      have hms40_0 := NB109_101.out
      have hms40_1 := NB109_108.out
      have hms40_3 := NB109_110.out
      refine skip_ (w1 := ?_) (by rfl) rfl ?_ ?_
      rotate_left
      · go_simp
        rfl
      refine hK.out _ _ ⟨gb108, gb109, gb110, m15_, m16_, m17_, (by rw [ha.out]; exact putSel_none (v := undef) rfl), (by (with_reducible repeat (first | refine blk_drewN ?_ _ | refine blk_drew ?_ | refine blk_alloc ?_ _)); refine blk_far ?_ NB101_109.out _; (with_reducible repeat (first | refine blk_drewN ?_ _ | refine blk_drew ?_ | refine blk_alloc ?_ _)); refine blk_far ?_ NB101_109.out _; (with_reducible repeat (first | refine blk_drewN ?_ _ | refine blk_drew ?_ | refine blk_alloc ?_ _)); exact BK101.out), (by repeat (first | (with_reducible first | exact HB.out | apply below_alloc | apply pw_below_drewN | apply below_drew1 | refine below_set ?_ GE101.out | refine below_set ?_ GE108.out | refine below_set ?_ GE109.out | refine below_set ?_ GE110.out) | exact HB.out)), fun _ _ => NB109_108.out, fun _ _ => NB108_109.out, fun _ _ => NB110_108.out, fun _ _ => NB108_110.out, fun _ _ => NB110_109.out, fun _ _ => NB109_110.out, fun _ h1_ => absurd ((hon 18 (by kernel_rfl)).symm.trans h1_) (by decide), fun _ => GW108.out, fun _ => GE108.out, fun _ => NB101_108.out, fun _ => NB108_101.out, fun _ h1_ => absurd ((up_self b 19).symm.trans h1_) (by decide), fun _ => GW109.out, fun _ => GE109.out, fun _ => NB101_109.out, fun _ => NB109_101.out, fun _ _ => (by (with_reducible repeat (first | refine blk_drewN ?_ _ | refine blk_drew ?_ | refine blk_alloc ?_ _)); refine blk_far ?_ NB110_109.out _; (with_reducible repeat (first | refine blk_drewN ?_ _ | refine blk_drew ?_ | refine blk_alloc ?_ _)); refine blk_far ?_ NB110_109.out _; (with_reducible repeat (first | refine blk_drewN ?_ _ | refine blk_drew ?_ | refine blk_alloc ?_ _)); exact BK110.out), fun _ => GW110.out, fun _ => GE110.out, fun _ => NB101_110.out, fun _ => NB110_101.out, fun _ => (by (with_reducible repeat (first | refine blk_drewN ?_ _ | refine blk_drew ?_ | refine blk_alloc ?_ _)); refine blk_far ?_ NB108_109.out _; (with_reducible repeat (first | refine blk_drewN ?_ _ | refine blk_drew ?_ | refine blk_alloc ?_ _)); refine blk_far ?_ NB108_109.out _; (with_reducible repeat (first | refine blk_drewN ?_ _ | refine blk_drew ?_ | refine blk_alloc ?_ _)); exact BK108.out), fun _ => (by (with_reducible repeat (first | refine blk_drewN ?_ _ | refine blk_drew ?_ | refine blk_alloc ?_ _)); refine blk_put (cs := #[.int .i64 t104, .int .i64 0]) ?_ 1 _ rfl; (with_reducible repeat (first | refine blk_drewN ?_ _ | refine blk_drew ?_ | refine blk_alloc ?_ _)); refine blk_put (cs := #[.int .i64 0, .int .i64 0]) ?_ 0 _ rfl; (with_reducible repeat (first | refine blk_drewN ?_ _ | refine blk_drew ?_ | refine blk_alloc ?_ _)); exact BK109.out), fun h0_ => absurd ((hoff 20 (by kernel_rfl)).symm.trans h0_) (by decide), Q_X15_, Q_X16_, Q_X17_⟩
    refine steps_cons ?_ ?_
    · rintro b a w' ⟨gb108, gb109, gb110, m15_, m16_, m17_, ha, Q_BK101, Q_HB, Q_NB109_108, Q_NB108_109, Q_NB110_108, Q_NB108_110, Q_NB110_109, Q_NB109_110, Q_BK108, Q_GW108, Q_GE108, Q_NB101_108, Q_NB108_101, Q_BK109, Q_GW109, Q_GE109, Q_NB101_109, Q_NB109_101, Q_BK110, Q_GW110, Q_GE110, Q_NB101_110, Q_NB110_101, Q_BK108_e18, Q_BK109_e19, Q_BK110_e20, Q_X15_, Q_X16_, Q_X17_⟩ hb_ hon hoff
      refine ⟨_, rfl, fun K hK => ?_⟩
      have e17 : a.tmps[17]? = some (m17_) := by rw [ha]; exact putSel_on (e := (17, 17, m17_)) 11 rfl rfl (hon 17 (by kernel_rfl)) rfl
      rw [Q_X17_ (hon 17 (by kernel_rfl))] at e17
      have e34 : a.tmps[34]? = some (.agg #[.int .i64 t106, .int .i64 t107]) := by rw [ha]; exact putSel_on (e := (14, 34, .agg #[.int .i64 t106, .int .i64 t107])) 8 rfl rfl (hon 14 (by kernel_rfl)) rfl
      replace ha := Aside0.mk ha
      have BK101 := Aside0.mk Q_BK101
      have HB := Aside0.mk Q_HB
      have NB109_108 := Aside0.mk (Q_NB109_108 (hon 15 (by kernel_rfl)) (hon 16 (by kernel_rfl)))
      have NB108_109 := Aside0.mk (Q_NB108_109 (hon 15 (by kernel_rfl)) (hon 16 (by kernel_rfl)))
      have NB110_108 := Aside0.mk (Q_NB110_108 (hon 15 (by kernel_rfl)) (hon 17 (by kernel_rfl)))
      have NB108_110 := Aside0.mk (Q_NB108_110 (hon 15 (by kernel_rfl)) (hon 17 (by kernel_rfl)))
      have NB110_109 := Aside0.mk (Q_NB110_109 (hon 16 (by kernel_rfl)) (hon 17 (by kernel_rfl)))
      have NB109_110 := Aside0.mk (Q_NB109_110 (hon 16 (by kernel_rfl)) (hon 17 (by kernel_rfl)))
      have GW108 := Aside0.mk (Q_GW108 (hon 15 (by kernel_rfl)))
      have GE108 := Aside0.mk (Q_GE108 (hon 15 (by kernel_rfl)))
      have NB101_108 := Aside0.mk (Q_NB101_108 (hon 15 (by kernel_rfl)))
      have NB108_101 := Aside0.mk (Q_NB108_101 (hon 15 (by kernel_rfl)))
      have GW109 := Aside0.mk (Q_GW109 (hon 16 (by kernel_rfl)))
      have GE109 := Aside0.mk (Q_GE109 (hon 16 (by kernel_rfl)))
      have NB101_109 := Aside0.mk (Q_NB101_109 (hon 16 (by kernel_rfl)))
      have NB109_101 := Aside0.mk (Q_NB109_101 (hon 16 (by kernel_rfl)))
      have BK110 := Aside0.mk (Q_BK110 (hon 17 (by kernel_rfl)) hb_)
      have GW110 := Aside0.mk (Q_GW110 (hon 17 (by kernel_rfl)))
      have GE110 := Aside0.mk (Q_GE110 (hon 17 (by kernel_rfl)))
      have NB101_110 := Aside0.mk (Q_NB101_110 (hon 17 (by kernel_rfl)))
      have NB110_101 := Aside0.mk (Q_NB110_101 (hon 17 (by kernel_rfl)))
      have BK108 := Aside0.mk (Q_BK108_e18 (hon 18 (by kernel_rfl)))
      have BK109 := Aside0.mk (Q_BK109_e19 (hon 19 (by kernel_rfl)))
      have hs41 : w'.cell? ⟨gb110, 0, none⟩ = some (.int .i64 0) := (blk_cell BK110.out 0).trans rfl
      have hfs41 := blk_frozen BK110.out 0
      have hns41_0 := NB101_110.out
      have hns41_1 := NB108_110.out
      have hns41_2 := NB109_110.out
      have hms41_0 := NB110_101.out
      have hms41_1 := NB110_108.out
      have hms41_2 := NB110_109.out
      have hs42 : w'.cell? ⟨gb110, 1, none⟩ = some (.int .i64 0) := (blk_cell BK110.out 1).trans rfl
      have hfs42 := blk_frozen BK110.out 1
      have hns42_0 := NB101_110.out
      have hns42_1 := NB108_110.out
      have hns42_2 := NB109_110.out
      have hms42_0 := NB110_101.out
      have hms42_1 := NB110_108.out
      have hms42_2 := NB110_109.out
      refine skip_ (w1 := ?_) (by rfl) rfl ?_ ?_
      rotate_left
      · go_simp
        rfl
      refine hK.out _ _ ⟨gb108, gb109, gb110, m15_, m16_, m17_, (by rw [ha.out]; exact putSel_none (v := undef) rfl), (by (with_reducible repeat (first | refine blk_drewN ?_ _ | refine blk_drew ?_ | refine blk_alloc ?_ _)); refine blk_far ?_ NB101_110.out _; (with_reducible repeat (first | refine blk_drewN ?_ _ | refine blk_drew ?_ | refine blk_alloc ?_ _)); refine blk_far ?_ NB101_110.out _; (with_reducible repeat (first | refine blk_drewN ?_ _ | refine blk_drew ?_ | refine blk_alloc ?_ _)); exact BK101.out), (by repeat (first | (with_reducible first | exact HB.out | apply below_alloc | apply pw_below_drewN | apply below_drew1 | refine below_set ?_ GE101.out | refine below_set ?_ GE108.out | refine below_set ?_ GE109.out | refine below_set ?_ GE110.out) | exact HB.out)), fun _ _ => NB109_108.out, fun _ _ => NB108_109.out, fun _ _ => NB110_108.out, fun _ _ => NB108_110.out, fun _ _ => NB110_109.out, fun _ _ => NB109_110.out, fun _ h1_ => absurd ((hon 18 (by kernel_rfl)).symm.trans h1_) (by decide), fun _ => GW108.out, fun _ => GE108.out, fun _ => NB101_108.out, fun _ => NB108_101.out, fun _ h1_ => absurd ((hon 19 (by kernel_rfl)).symm.trans h1_) (by decide), fun _ => GW109.out, fun _ => GE109.out, fun _ => NB101_109.out, fun _ => NB109_101.out, fun _ h1_ => absurd ((up_self b 20).symm.trans h1_) (by decide), fun _ => GW110.out, fun _ => GE110.out, fun _ => NB101_110.out, fun _ => NB110_101.out, fun _ => (by (with_reducible repeat (first | refine blk_drewN ?_ _ | refine blk_drew ?_ | refine blk_alloc ?_ _)); refine blk_far ?_ NB108_110.out _; (with_reducible repeat (first | refine blk_drewN ?_ _ | refine blk_drew ?_ | refine blk_alloc ?_ _)); refine blk_far ?_ NB108_110.out _; (with_reducible repeat (first | refine blk_drewN ?_ _ | refine blk_drew ?_ | refine blk_alloc ?_ _)); exact BK108.out), fun _ => (by (with_reducible repeat (first | refine blk_drewN ?_ _ | refine blk_drew ?_ | refine blk_alloc ?_ _)); refine blk_far ?_ NB109_110.out _; (with_reducible repeat (first | refine blk_drewN ?_ _ | refine blk_drew ?_ | refine blk_alloc ?_ _)); refine blk_far ?_ NB109_110.out _; (with_reducible repeat (first | refine blk_drewN ?_ _ | refine blk_drew ?_ | refine blk_alloc ?_ _)); exact BK109.out), fun _ => (by (with_reducible repeat (first | refine blk_drewN ?_ _ | refine blk_drew ?_ | refine blk_alloc ?_ _)); refine blk_put (cs := #[.int .i64 t106, .int .i64 0]) ?_ 1 _ rfl; (with_reducible repeat (first | refine blk_drewN ?_ _ | refine blk_drew ?_ | refine blk_alloc ?_ _)); refine blk_put (cs := #[.int .i64 0, .int .i64 0]) ?_ 0 _ rfl; (with_reducible repeat (first | refine blk_drewN ?_ _ | refine blk_drew ?_ | refine blk_alloc ?_ _)); exact BK110.out), Q_X15_, Q_X16_, Q_X17_⟩
    exact steps_nil
  rintro b a w42 hall ⟨gb108, gb109, gb110, m15_, m16_, m17_, ha, Q_BK101, Q_HB, Q_NB109_108, Q_NB108_109, Q_NB110_108, Q_NB108_110, Q_NB110_109, Q_NB109_110, Q_BK108, Q_GW108, Q_GE108, Q_NB101_108, Q_NB108_101, Q_BK109, Q_GW109, Q_GE109, Q_NB101_109, Q_NB109_101, Q_BK110, Q_GW110, Q_GE110, Q_NB101_110, Q_NB110_101, Q_BK108_e18, Q_BK109_e19, Q_BK110_e20, Q_X15_, Q_X16_, Q_X17_⟩
  clear BK101 HB
  have hb2_ := hall 2 (by kernel_rfl)
  have hb3_ := hall 3 (by kernel_rfl)
  have hb4_ := hall 4 (by kernel_rfl)
  have hb7_ := hall 7 (by kernel_rfl)
  have hb8_ := hall 8 (by kernel_rfl)
  have hb9_ := hall 9 (by kernel_rfl)
  have hb12_ := hall 12 (by kernel_rfl)
  have hb13_ := hall 13 (by kernel_rfl)
  have hb14_ := hall 14 (by kernel_rfl)
  have hb15_ := hall 15 (by kernel_rfl)
  have hb16_ := hall 16 (by kernel_rfl)
  have hb17_ := hall 17 (by kernel_rfl)
  have hb18_ := hall 18 (by kernel_rfl)
  have hb19_ := hall 19 (by kernel_rfl)
  have hb20_ := hall 20 (by kernel_rfl)
  subst ha
  obtain rfl := Q_X15_ hb15_
  obtain rfl := Q_X16_ hb16_
  obtain rfl := Q_X17_ hb17_
  simp only [putSel, hb2_, hb3_, hb4_, hb7_, hb8_, hb9_, hb12_, hb13_, hb14_, hb15_, hb16_, hb17_, hb18_, hb19_, hb20_, if_true, Act.put, List.setIfInBounds_toArray, List.set_cons_zero, List.set_cons_succ]
  have BK101 := Aside0.mk Q_BK101
  clear Q_BK101
  have HB := Aside0.mk Q_HB
  clear Q_HB
  have NB109_108 := Aside0.mk (Q_NB109_108 hb15_ hb16_)
  clear Q_NB109_108
  have NB108_109 := Aside0.mk (Q_NB108_109 hb15_ hb16_)
  clear Q_NB108_109
  have NB110_108 := Aside0.mk (Q_NB110_108 hb15_ hb17_)
  clear Q_NB110_108
  have NB108_110 := Aside0.mk (Q_NB108_110 hb15_ hb17_)
  clear Q_NB108_110
  have NB110_109 := Aside0.mk (Q_NB110_109 hb16_ hb17_)
  clear Q_NB110_109
  have NB109_110 := Aside0.mk (Q_NB109_110 hb16_ hb17_)
  clear Q_NB109_110
  clear Q_BK108
  have GW108 := Aside0.mk (Q_GW108 hb15_)
  clear Q_GW108
  have GE108 := Aside0.mk (Q_GE108 hb15_)
  clear Q_GE108
  have NB101_108 := Aside0.mk (Q_NB101_108 hb15_)
  clear Q_NB101_108
  have NB108_101 := Aside0.mk (Q_NB108_101 hb15_)
  clear Q_NB108_101
  clear Q_BK109
  have GW109 := Aside0.mk (Q_GW109 hb16_)
  clear Q_GW109
  have GE109 := Aside0.mk (Q_GE109 hb16_)
  clear Q_GE109
  have NB101_109 := Aside0.mk (Q_NB101_109 hb16_)
  clear Q_NB101_109
  have NB109_101 := Aside0.mk (Q_NB109_101 hb16_)
  clear Q_NB109_101
  clear Q_BK110
  have GW110 := Aside0.mk (Q_GW110 hb17_)
  clear Q_GW110
  have GE110 := Aside0.mk (Q_GE110 hb17_)
  clear Q_GE110
  have NB101_110 := Aside0.mk (Q_NB101_110 hb17_)
  clear Q_NB101_110
  have NB110_101 := Aside0.mk (Q_NB110_101 hb17_)
  clear Q_NB110_101
  have BK108 := Aside0.mk (Q_BK108_e18 hb18_)
  clear Q_BK108_e18
  have BK109 := Aside0.mk (Q_BK109_e19 hb19_)
  clear Q_BK109_e19
  have BK110 := Aside0.mk (Q_BK110_e20 hb20_)
  clear Q_BK110_e20
  clear hall hb2_ hb3_ hb4_ hb7_ hb8_ hb9_ hb12_ hb13_ hb14_ hb15_ hb16_ hb17_ hb18_ hb19_ hb20_
  try go_wp2
  have n0_ := Aside0.mk (blk_drew BK101.out)
  have n1_ := Aside0.mk (blk_drew BK108.out)
  have n2_ := Aside0.mk (blk_drew BK109.out)
  have n3_ := Aside0.mk (blk_drew BK110.out)
  have n4_ := Aside0.mk (below_drew1 HB.out)
  clear BK101
  clear BK108
  clear BK109
  clear BK110
  clear HB
  have BK101 := n0_
  have BK108 := n1_
  have BK109 := n2_
  have BK110 := n3_
  have HB := n4_
  clear n0_ n1_ n2_ n3_ n4_
  refine start_ (n := 10) (S := fun w' => True) (ds := []) #[false, false, false, false, false, false, false, false, false, false] (by kernel_rfl) rfl rfl trivial (fun hHeld => ?_); refine with_tabW timeboundlaw07_IntervalLattice.tab2 timeboundlaw07_IntervalLattice.bits2 (fun HT_ HW_ => ?_)
  generalize w42.drew = w43 at BK101 BK108 BK109 BK110 HB hHeld ⊢
  refine inv_at [0, 1, 2, 3, 4, 5, 6, 7, 8, 9] (fun a0_ b a w' => ∃ (gb115 : Nat) (gb116 : Nat) (m6_ : Value) (m7_ : Value), a = putSel a0_ b [(0, 35, .agg #[.int .i64 t102, .int .i64 t103]), (1, 36, .agg #[.int .i64 t104, .int .i64 t105]), (2, 37, .agg #[.int .i64 t111, .int .i64 t112]), (3, 38, .agg #[.int .i64 t102, .int .i64 t103]), (4, 39, .agg #[.int .i64 t104, .int .i64 t105]), (5, 40, .agg #[.int .i64 t113, .int .i64 t114]), (6, 18, m6_), (7, 19, m7_)] ∧ (w'.heap[gb101]? = some (.cells #[.int .u8 a6_0, .int .u8 a6_1, .int .u8 a6_2] 43 (0, 0))) ∧ (w'.heap[gb108]? = some (.cells #[.int .i64 t102, .int .i64 t103] 23 (0, 0))) ∧ (w'.heap[gb109]? = some (.cells #[.int .i64 t104, .int .i64 t105] 23 (0, 0))) ∧ (w'.heap[gb110]? = some (.cells #[.int .i64 t106, .int .i64 t107] 23 (0, 0))) ∧ (Below w.heap.size w w') ∧ (b 6 = true → b 7 = true → gb116 ≠ gb115) ∧ (b 6 = true → b 7 = true → gb115 ≠ gb116) ∧ (b 6 = true → b 8 = false → w'.heap[gb115]? = some (.cells #[.int .i64 0, .int .i64 0] 23 (0, 0))) ∧ (b 6 = true → w.heap.size ≤ gb115) ∧ (b 6 = true → w.heap.size ≤ gb115) ∧ (b 6 = true → gb101 ≠ gb115) ∧ (b 6 = true → gb115 ≠ gb101) ∧ (b 6 = true → gb108 ≠ gb115) ∧ (b 6 = true → gb115 ≠ gb108) ∧ (b 6 = true → gb109 ≠ gb115) ∧ (b 6 = true → gb115 ≠ gb109) ∧ (b 6 = true → gb110 ≠ gb115) ∧ (b 6 = true → gb115 ≠ gb110) ∧ (b 7 = true → b 9 = false → w'.heap[gb116]? = some (.cells #[.int .i64 0, .int .i64 0] 23 (0, 0))) ∧ (b 7 = true → w.heap.size ≤ gb116) ∧ (b 7 = true → w.heap.size ≤ gb116) ∧ (b 7 = true → gb101 ≠ gb116) ∧ (b 7 = true → gb116 ≠ gb101) ∧ (b 7 = true → gb108 ≠ gb116) ∧ (b 7 = true → gb116 ≠ gb108) ∧ (b 7 = true → gb109 ≠ gb116) ∧ (b 7 = true → gb116 ≠ gb109) ∧ (b 7 = true → gb110 ≠ gb116) ∧ (b 7 = true → gb116 ≠ gb110) ∧ (b 8 = true → w'.heap[gb115]? = some (.cells #[.int .i64 t111, .int .i64 t112] 23 (0, 0))) ∧ (b 9 = true → w'.heap[gb116]? = some (.cells #[.int .i64 t113, .int .i64 t114] 23 (0, 0))) ∧ (b 6 = true → (m6_ : Value) = .pointer (some ⟨gb115, 0, none⟩)) ∧ (b 7 = true → (m7_ : Value) = .pointer (some ⟨gb116, 0, none⟩))) HT_.out HW_.out (by kernel_rfl) (by kernel_rfl) ?_ ?_ ?_
  · exact ⟨0, 0, .bool false, .bool false, by simp only [putSel, Bool.false_eq_true, if_false], BK101.out, BK108.out, BK109.out, BK110.out, HB.out, fun h_ => absurd h_ (by decide), fun h_ => absurd h_ (by decide), fun h_ => absurd h_ (by decide), fun h_ => absurd h_ (by decide), fun h_ => absurd h_ (by decide), fun h_ => absurd h_ (by decide), fun h_ => absurd h_ (by decide), fun h_ => absurd h_ (by decide), fun h_ => absurd h_ (by decide), fun h_ => absurd h_ (by decide), fun h_ => absurd h_ (by decide), fun h_ => absurd h_ (by decide), fun h_ => absurd h_ (by decide), fun h_ => absurd h_ (by decide), fun h_ => absurd h_ (by decide), fun h_ => absurd h_ (by decide), fun h_ => absurd h_ (by decide), fun h_ => absurd h_ (by decide), fun h_ => absurd h_ (by decide), fun h_ => absurd h_ (by decide), fun h_ => absurd h_ (by decide), fun h_ => absurd h_ (by decide), fun h_ => absurd h_ (by decide), fun h_ => absurd h_ (by decide), fun h_ => absurd h_ (by decide), fun h_ => absurd h_ (by decide), fun h_ => absurd h_ (by decide), fun h_ => absurd h_ (by decide)⟩
  · skip
    clear BK101 BK108 BK109 BK110 HB
    refine steps_cons ?_ ?_
    · rintro b a w' ⟨gb115, gb116, m6_, m7_, ha, Q_BK101, Q_BK108, Q_BK109, Q_BK110, Q_HB, Q_NB116_115, Q_NB115_116, Q_BK115, Q_GW115, Q_GE115, Q_NB101_115, Q_NB115_101, Q_NB108_115, Q_NB115_108, Q_NB109_115, Q_NB115_109, Q_NB110_115, Q_NB115_110, Q_BK116, Q_GW116, Q_GE116, Q_NB101_116, Q_NB116_101, Q_NB108_116, Q_NB116_108, Q_NB109_116, Q_NB116_109, Q_NB110_116, Q_NB116_110, Q_BK115_e8, Q_BK116_e9, Q_X6_, Q_X7_⟩ hb_ hon hoff
      refine ⟨_, rfl, fun K hK => ?_⟩
      have e15 : a.tmps[15]? = some (.pointer (some ⟨gb108, 0, none⟩)) := by rw [ha]; exact (putSel_off rfl).trans rfl
      replace ha := Aside0.mk ha
      have BK101 := Aside0.mk Q_BK101
      have BK108 := Aside0.mk Q_BK108
      have BK109 := Aside0.mk Q_BK109
      have BK110 := Aside0.mk Q_BK110
      have HB := Aside0.mk Q_HB
      have hc0_ : w'.cell? ⟨gb108, 0, none⟩ = some (.int .i64 t102) := (blk_cell BK108.out 0).trans rfl
      have hc1_ : w'.cell? ⟨gb108, 1, none⟩ = some (.int .i64 t103) := (blk_cell BK108.out 1).trans rfl
      refine value_ (w1 := w') (v := .agg #[.int .i64 t102, .int .i64 t103]) (by rfl) rfl ?_ ?_
      · go_simp
        (try simp only [i64_w])
        try rfl
      refine hK.out _ _ ⟨gb115, gb116, m6_, m7_, (by rw [ha.out]; exact putSel_upk 0 hb_ rfl rfl rfl), Q_BK101, Q_BK108, Q_BK109, Q_BK110, Q_HB, Q_NB116_115, Q_NB115_116, Q_BK115, Q_GW115, Q_GE115, Q_NB101_115, Q_NB115_101, Q_NB108_115, Q_NB115_108, Q_NB109_115, Q_NB115_109, Q_NB110_115, Q_NB115_110, Q_BK116, Q_GW116, Q_GE116, Q_NB101_116, Q_NB116_101, Q_NB108_116, Q_NB116_108, Q_NB109_116, Q_NB116_109, Q_NB110_116, Q_NB116_110, fun h0_ => absurd ((hoff 8 (by kernel_rfl)).symm.trans h0_) (by decide), fun h0_ => absurd ((hoff 9 (by kernel_rfl)).symm.trans h0_) (by decide), Q_X6_, Q_X7_⟩
    refine steps_cons ?_ ?_
    · rintro b a w' ⟨gb115, gb116, m6_, m7_, ha, Q_BK101, Q_BK108, Q_BK109, Q_BK110, Q_HB, Q_NB116_115, Q_NB115_116, Q_BK115, Q_GW115, Q_GE115, Q_NB101_115, Q_NB115_101, Q_NB108_115, Q_NB115_108, Q_NB109_115, Q_NB115_109, Q_NB110_115, Q_NB115_110, Q_BK116, Q_GW116, Q_GE116, Q_NB101_116, Q_NB116_101, Q_NB108_116, Q_NB116_108, Q_NB109_116, Q_NB116_109, Q_NB110_116, Q_NB116_110, Q_BK115_e8, Q_BK116_e9, Q_X6_, Q_X7_⟩ hb_ hon hoff
      refine ⟨_, rfl, fun K hK => ?_⟩
      have e16 : a.tmps[16]? = some (.pointer (some ⟨gb109, 0, none⟩)) := by rw [ha]; exact (putSel_off rfl).trans rfl
      replace ha := Aside0.mk ha
      have BK101 := Aside0.mk Q_BK101
      have BK108 := Aside0.mk Q_BK108
      have BK109 := Aside0.mk Q_BK109
      have BK110 := Aside0.mk Q_BK110
      have HB := Aside0.mk Q_HB
      have hc0_ : w'.cell? ⟨gb109, 0, none⟩ = some (.int .i64 t104) := (blk_cell BK109.out 0).trans rfl
      have hc1_ : w'.cell? ⟨gb109, 1, none⟩ = some (.int .i64 t105) := (blk_cell BK109.out 1).trans rfl
      refine value_ (w1 := w') (v := .agg #[.int .i64 t104, .int .i64 t105]) (by rfl) rfl ?_ ?_
      · go_simp
        (try simp only [i64_w])
        try rfl
      refine hK.out _ _ ⟨gb115, gb116, m6_, m7_, (by rw [ha.out]; exact putSel_upk 1 hb_ rfl rfl rfl), Q_BK101, Q_BK108, Q_BK109, Q_BK110, Q_HB, Q_NB116_115, Q_NB115_116, Q_BK115, Q_GW115, Q_GE115, Q_NB101_115, Q_NB115_101, Q_NB108_115, Q_NB115_108, Q_NB109_115, Q_NB115_109, Q_NB110_115, Q_NB115_110, Q_BK116, Q_GW116, Q_GE116, Q_NB101_116, Q_NB116_101, Q_NB108_116, Q_NB116_108, Q_NB109_116, Q_NB116_109, Q_NB110_116, Q_NB116_110, fun h0_ => absurd ((hoff 8 (by kernel_rfl)).symm.trans h0_) (by decide), fun h0_ => absurd ((hoff 9 (by kernel_rfl)).symm.trans h0_) (by decide), Q_X6_, Q_X7_⟩
    refine steps_cons ?_ ?_
    · rintro b a w' ⟨gb115, gb116, m6_, m7_, ha, Q_BK101, Q_BK108, Q_BK109, Q_BK110, Q_HB, Q_NB116_115, Q_NB115_116, Q_BK115, Q_GW115, Q_GE115, Q_NB101_115, Q_NB115_101, Q_NB108_115, Q_NB115_108, Q_NB109_115, Q_NB115_109, Q_NB110_115, Q_NB115_110, Q_BK116, Q_GW116, Q_GE116, Q_NB101_116, Q_NB116_101, Q_NB108_116, Q_NB116_108, Q_NB109_116, Q_NB116_109, Q_NB110_116, Q_NB116_110, Q_BK115_e8, Q_BK116_e9, Q_X6_, Q_X7_⟩ hb_ hon hoff
      refine ⟨_, rfl, fun K hK => ?_⟩
      have e35 : a.tmps[35]? = some (.agg #[.int .i64 t102, .int .i64 t103]) := by rw [ha]; exact putSel_on (e := (0, 35, .agg #[.int .i64 t102, .int .i64 t103])) 0 rfl rfl (hon 0 (by kernel_rfl)) rfl
      have e36 : a.tmps[36]? = some (.agg #[.int .i64 t104, .int .i64 t105]) := by rw [ha]; exact putSel_on (e := (1, 36, .agg #[.int .i64 t104, .int .i64 t105])) 1 rfl rfl (hon 1 (by kernel_rfl)) rfl
      replace ha := Aside0.mk ha
      have BK101 := Aside0.mk Q_BK101
      have BK108 := Aside0.mk Q_BK108
      have BK109 := Aside0.mk Q_BK109
      have BK110 := Aside0.mk Q_BK110
      have HB := Aside0.mk Q_HB
      refine goes_ Try.func24 (by kernel_rfl) rfl #[.agg #[.int .i64 t102, .int .i64 t103], .agg #[.int .i64 t104, .int .i64 t105]] (by rfl) rfl rfl (by first | (simp only [List.map_toArray, List.map_cons, List.map_nil, Act.eval, Array.getD_eq_getD_getElem?, Option.getD_some, e35, e36]; done) | (simp only [List.map_toArray, List.map_cons, List.map_nil, Act.eval, Array.getD_eq_getD_getElem?, Option.getD_some, e35, e36]; rfl)) ?_
      with_reducible refine (interval_Join.calls t102 t103 t104 t105 t111 t112 _ A11.out).mono ?_
      rintro e w44 ⟨rfl, hb⟩
      refine ⟨_, rfl, ?_⟩
      have n0_ := Aside0.mk (blk_below (g := gb101) (o := .cells #[.int .u8 a6_0, .int .u8 a6_1, .int .u8 a6_2] 43 (0, 0)) (by (with_reducible repeat (first | refine blk_drewN ?_ _ | refine blk_drew ?_ | refine blk_alloc ?_ _)); exact BK101.out) hb)
      have n1_ := Aside0.mk (blk_below (g := gb108) (o := .cells #[.int .i64 t102, .int .i64 t103] 23 (0, 0)) (by (with_reducible repeat (first | refine blk_drewN ?_ _ | refine blk_drew ?_ | refine blk_alloc ?_ _)); exact BK108.out) hb)
      have n2_ := Aside0.mk (blk_below (g := gb109) (o := .cells #[.int .i64 t104, .int .i64 t105] 23 (0, 0)) (by (with_reducible repeat (first | refine blk_drewN ?_ _ | refine blk_drew ?_ | refine blk_alloc ?_ _)); exact BK109.out) hb)
      have n3_ := Aside0.mk (blk_below (g := gb110) (o := .cells #[.int .i64 t106, .int .i64 t107] 23 (0, 0)) (by (with_reducible repeat (first | refine blk_drewN ?_ _ | refine blk_drew ?_ | refine blk_alloc ?_ _)); exact BK110.out) hb)
      have n4_ := Aside0.mk (below_step (by repeat (first | (with_reducible first | exact HB.out | apply below_alloc | apply pw_below_drewN | apply below_drew1 | refine below_set ?_ GE101.out | refine below_set ?_ GE108.out | refine below_set ?_ GE109.out | refine below_set ?_ GE110.out) | exact HB.out)) hb)
      have z_BK115 := fun (h0_ : b 6 = true) (h1_ : b 8 = false) => (show w44.heap[gb115]? = some (.cells #[.int .i64 0, .int .i64 0] 23 (0, 0)) from by first | exact (blk_below (g := gb115) (o := .cells #[.int .i64 0, .int .i64 0] 23 (0, 0)) (by (with_reducible repeat (first | refine blk_drewN ?_ _ | refine blk_drew ?_ | refine blk_alloc ?_ _)); exact (Q_BK115 h0_ h1_)) hb))
      have z_BK116 := fun (h0_ : b 7 = true) (h1_ : b 9 = false) => (show w44.heap[gb116]? = some (.cells #[.int .i64 0, .int .i64 0] 23 (0, 0)) from by first | exact (blk_below (g := gb116) (o := .cells #[.int .i64 0, .int .i64 0] 23 (0, 0)) (by (with_reducible repeat (first | refine blk_drewN ?_ _ | refine blk_drew ?_ | refine blk_alloc ?_ _)); exact (Q_BK116 h0_ h1_)) hb))
      clear BK101
      clear BK108
      clear BK109
      clear BK110
      clear HB
      have BK101 := n0_
      have BK108 := n1_
      have BK109 := n2_
      have BK110 := n3_
      have HB := n4_
      clear n0_ n1_ n2_ n3_ n4_
      (try clear hb)
      (try clear hb2)
      (try clear hk)
      (try clear hi)
      refine hK.out _ _ ⟨gb115, gb116, m6_, m7_, (by rw [ha.out]; exact putSel_upk 2 hb_ rfl rfl rfl), (by (with_reducible repeat (first | refine blk_drewN ?_ _ | refine blk_drew ?_ | refine blk_alloc ?_ _)); exact BK101.out), (by (with_reducible repeat (first | refine blk_drewN ?_ _ | refine blk_drew ?_ | refine blk_alloc ?_ _)); exact BK108.out), (by (with_reducible repeat (first | refine blk_drewN ?_ _ | refine blk_drew ?_ | refine blk_alloc ?_ _)); exact BK109.out), (by (with_reducible repeat (first | refine blk_drewN ?_ _ | refine blk_drew ?_ | refine blk_alloc ?_ _)); exact BK110.out), (by repeat (first | (with_reducible first | exact HB.out | apply below_alloc | apply pw_below_drewN | apply below_drew1 | refine below_set ?_ GE101.out | refine below_set ?_ GE108.out | refine below_set ?_ GE109.out | refine below_set ?_ GE110.out) | exact HB.out)), Q_NB116_115, Q_NB115_116, z_BK115, Q_GW115, Q_GE115, Q_NB101_115, Q_NB115_101, Q_NB108_115, Q_NB115_108, Q_NB109_115, Q_NB115_109, Q_NB110_115, Q_NB115_110, z_BK116, Q_GW116, Q_GE116, Q_NB101_116, Q_NB116_101, Q_NB108_116, Q_NB116_108, Q_NB109_116, Q_NB116_109, Q_NB110_116, Q_NB116_110, fun h0_ => absurd ((hoff 8 (by kernel_rfl)).symm.trans h0_) (by decide), fun h0_ => absurd ((hoff 9 (by kernel_rfl)).symm.trans h0_) (by decide), Q_X6_, Q_X7_⟩
    refine steps_cons ?_ ?_
    · rintro b a w' ⟨gb115, gb116, m6_, m7_, ha, Q_BK101, Q_BK108, Q_BK109, Q_BK110, Q_HB, Q_NB116_115, Q_NB115_116, Q_BK115, Q_GW115, Q_GE115, Q_NB101_115, Q_NB115_101, Q_NB108_115, Q_NB115_108, Q_NB109_115, Q_NB115_109, Q_NB110_115, Q_NB115_110, Q_BK116, Q_GW116, Q_GE116, Q_NB101_116, Q_NB116_101, Q_NB108_116, Q_NB116_108, Q_NB109_116, Q_NB116_109, Q_NB110_116, Q_NB116_110, Q_BK115_e8, Q_BK116_e9, Q_X6_, Q_X7_⟩ hb_ hon hoff
      refine ⟨_, rfl, fun K hK => ?_⟩
      have e15 : a.tmps[15]? = some (.pointer (some ⟨gb108, 0, none⟩)) := by rw [ha]; exact (putSel_off rfl).trans rfl
      replace ha := Aside0.mk ha
      have BK101 := Aside0.mk Q_BK101
      have BK108 := Aside0.mk Q_BK108
      have BK109 := Aside0.mk Q_BK109
      have BK110 := Aside0.mk Q_BK110
      have HB := Aside0.mk Q_HB
      have hc0_ : w'.cell? ⟨gb108, 0, none⟩ = some (.int .i64 t102) := (blk_cell BK108.out 0).trans rfl
      have hc1_ : w'.cell? ⟨gb108, 1, none⟩ = some (.int .i64 t103) := (blk_cell BK108.out 1).trans rfl
      refine value_ (w1 := w') (v := .agg #[.int .i64 t102, .int .i64 t103]) (by rfl) rfl ?_ ?_
      · go_simp
        (try simp only [i64_w])
        try rfl
      refine hK.out _ _ ⟨gb115, gb116, m6_, m7_, (by rw [ha.out]; exact putSel_upk 3 hb_ rfl rfl rfl), Q_BK101, Q_BK108, Q_BK109, Q_BK110, Q_HB, Q_NB116_115, Q_NB115_116, Q_BK115, Q_GW115, Q_GE115, Q_NB101_115, Q_NB115_101, Q_NB108_115, Q_NB115_108, Q_NB109_115, Q_NB115_109, Q_NB110_115, Q_NB115_110, Q_BK116, Q_GW116, Q_GE116, Q_NB101_116, Q_NB116_101, Q_NB108_116, Q_NB116_108, Q_NB109_116, Q_NB116_109, Q_NB110_116, Q_NB116_110, fun h0_ => absurd ((hoff 8 (by kernel_rfl)).symm.trans h0_) (by decide), fun h0_ => absurd ((hoff 9 (by kernel_rfl)).symm.trans h0_) (by decide), Q_X6_, Q_X7_⟩
    refine steps_cons ?_ ?_
    · rintro b a w' ⟨gb115, gb116, m6_, m7_, ha, Q_BK101, Q_BK108, Q_BK109, Q_BK110, Q_HB, Q_NB116_115, Q_NB115_116, Q_BK115, Q_GW115, Q_GE115, Q_NB101_115, Q_NB115_101, Q_NB108_115, Q_NB115_108, Q_NB109_115, Q_NB115_109, Q_NB110_115, Q_NB115_110, Q_BK116, Q_GW116, Q_GE116, Q_NB101_116, Q_NB116_101, Q_NB108_116, Q_NB116_108, Q_NB109_116, Q_NB116_109, Q_NB110_116, Q_NB116_110, Q_BK115_e8, Q_BK116_e9, Q_X6_, Q_X7_⟩ hb_ hon hoff
      refine ⟨_, rfl, fun K hK => ?_⟩
      have e16 : a.tmps[16]? = some (.pointer (some ⟨gb109, 0, none⟩)) := by rw [ha]; exact (putSel_off rfl).trans rfl
      replace ha := Aside0.mk ha
      have BK101 := Aside0.mk Q_BK101
      have BK108 := Aside0.mk Q_BK108
      have BK109 := Aside0.mk Q_BK109
      have BK110 := Aside0.mk Q_BK110
      have HB := Aside0.mk Q_HB
      have hc0_ : w'.cell? ⟨gb109, 0, none⟩ = some (.int .i64 t104) := (blk_cell BK109.out 0).trans rfl
      have hc1_ : w'.cell? ⟨gb109, 1, none⟩ = some (.int .i64 t105) := (blk_cell BK109.out 1).trans rfl
      refine value_ (w1 := w') (v := .agg #[.int .i64 t104, .int .i64 t105]) (by rfl) rfl ?_ ?_
      · go_simp
        (try simp only [i64_w])
        try rfl
      refine hK.out _ _ ⟨gb115, gb116, m6_, m7_, (by rw [ha.out]; exact putSel_upk 4 hb_ rfl rfl rfl), Q_BK101, Q_BK108, Q_BK109, Q_BK110, Q_HB, Q_NB116_115, Q_NB115_116, Q_BK115, Q_GW115, Q_GE115, Q_NB101_115, Q_NB115_101, Q_NB108_115, Q_NB115_108, Q_NB109_115, Q_NB115_109, Q_NB110_115, Q_NB115_110, Q_BK116, Q_GW116, Q_GE116, Q_NB101_116, Q_NB116_101, Q_NB108_116, Q_NB116_108, Q_NB109_116, Q_NB116_109, Q_NB110_116, Q_NB116_110, fun h0_ => absurd ((hoff 8 (by kernel_rfl)).symm.trans h0_) (by decide), fun h0_ => absurd ((hoff 9 (by kernel_rfl)).symm.trans h0_) (by decide), Q_X6_, Q_X7_⟩
    refine steps_cons ?_ ?_
    · rintro b a w' ⟨gb115, gb116, m6_, m7_, ha, Q_BK101, Q_BK108, Q_BK109, Q_BK110, Q_HB, Q_NB116_115, Q_NB115_116, Q_BK115, Q_GW115, Q_GE115, Q_NB101_115, Q_NB115_101, Q_NB108_115, Q_NB115_108, Q_NB109_115, Q_NB115_109, Q_NB110_115, Q_NB115_110, Q_BK116, Q_GW116, Q_GE116, Q_NB101_116, Q_NB116_101, Q_NB108_116, Q_NB116_108, Q_NB109_116, Q_NB116_109, Q_NB110_116, Q_NB116_110, Q_BK115_e8, Q_BK116_e9, Q_X6_, Q_X7_⟩ hb_ hon hoff
      refine ⟨_, rfl, fun K hK => ?_⟩
      have e38 : a.tmps[38]? = some (.agg #[.int .i64 t102, .int .i64 t103]) := by rw [ha]; exact putSel_on (e := (3, 38, .agg #[.int .i64 t102, .int .i64 t103])) 3 rfl rfl (hon 3 (by kernel_rfl)) rfl
      have e39 : a.tmps[39]? = some (.agg #[.int .i64 t104, .int .i64 t105]) := by rw [ha]; exact putSel_on (e := (4, 39, .agg #[.int .i64 t104, .int .i64 t105])) 4 rfl rfl (hon 4 (by kernel_rfl)) rfl
      replace ha := Aside0.mk ha
      have BK101 := Aside0.mk Q_BK101
      have BK108 := Aside0.mk Q_BK108
      have BK109 := Aside0.mk Q_BK109
      have BK110 := Aside0.mk Q_BK110
      have HB := Aside0.mk Q_HB
      refine goes_ Try.func25 (by kernel_rfl) rfl #[.agg #[.int .i64 t102, .int .i64 t103], .agg #[.int .i64 t104, .int .i64 t105]] (by rfl) rfl rfl (by first | (simp only [List.map_toArray, List.map_cons, List.map_nil, Act.eval, Array.getD_eq_getD_getElem?, Option.getD_some, e38, e39]; done) | (simp only [List.map_toArray, List.map_cons, List.map_nil, Act.eval, Array.getD_eq_getD_getElem?, Option.getD_some, e38, e39]; rfl)) ?_
      with_reducible refine (interval_Meet.calls t102 t103 t104 t105 t113 t114 _ A12.out).mono ?_
      rintro e w46 ⟨rfl, hb⟩
      refine ⟨_, rfl, ?_⟩
      have n0_ := Aside0.mk (blk_below (g := gb101) (o := .cells #[.int .u8 a6_0, .int .u8 a6_1, .int .u8 a6_2] 43 (0, 0)) (by (with_reducible repeat (first | refine blk_drewN ?_ _ | refine blk_drew ?_ | refine blk_alloc ?_ _)); exact BK101.out) hb)
      have n1_ := Aside0.mk (blk_below (g := gb108) (o := .cells #[.int .i64 t102, .int .i64 t103] 23 (0, 0)) (by (with_reducible repeat (first | refine blk_drewN ?_ _ | refine blk_drew ?_ | refine blk_alloc ?_ _)); exact BK108.out) hb)
      have n2_ := Aside0.mk (blk_below (g := gb109) (o := .cells #[.int .i64 t104, .int .i64 t105] 23 (0, 0)) (by (with_reducible repeat (first | refine blk_drewN ?_ _ | refine blk_drew ?_ | refine blk_alloc ?_ _)); exact BK109.out) hb)
      have n3_ := Aside0.mk (blk_below (g := gb110) (o := .cells #[.int .i64 t106, .int .i64 t107] 23 (0, 0)) (by (with_reducible repeat (first | refine blk_drewN ?_ _ | refine blk_drew ?_ | refine blk_alloc ?_ _)); exact BK110.out) hb)
      have n4_ := Aside0.mk (below_step (by repeat (first | (with_reducible first | exact HB.out | apply below_alloc | apply pw_below_drewN | apply below_drew1 | refine below_set ?_ GE101.out | refine below_set ?_ GE108.out | refine below_set ?_ GE109.out | refine below_set ?_ GE110.out) | exact HB.out)) hb)
      have z_BK115 := fun (h0_ : b 6 = true) (h1_ : b 8 = false) => (show w46.heap[gb115]? = some (.cells #[.int .i64 0, .int .i64 0] 23 (0, 0)) from by first | exact (blk_below (g := gb115) (o := .cells #[.int .i64 0, .int .i64 0] 23 (0, 0)) (by (with_reducible repeat (first | refine blk_drewN ?_ _ | refine blk_drew ?_ | refine blk_alloc ?_ _)); exact (Q_BK115 h0_ h1_)) hb))
      have z_BK116 := fun (h0_ : b 7 = true) (h1_ : b 9 = false) => (show w46.heap[gb116]? = some (.cells #[.int .i64 0, .int .i64 0] 23 (0, 0)) from by first | exact (blk_below (g := gb116) (o := .cells #[.int .i64 0, .int .i64 0] 23 (0, 0)) (by (with_reducible repeat (first | refine blk_drewN ?_ _ | refine blk_drew ?_ | refine blk_alloc ?_ _)); exact (Q_BK116 h0_ h1_)) hb))
      clear BK101
      clear BK108
      clear BK109
      clear BK110
      clear HB
      have BK101 := n0_
      have BK108 := n1_
      have BK109 := n2_
      have BK110 := n3_
      have HB := n4_
      clear n0_ n1_ n2_ n3_ n4_
      (try clear hb)
      (try clear hb2)
      (try clear hk)
      (try clear hi)
      refine hK.out _ _ ⟨gb115, gb116, m6_, m7_, (by rw [ha.out]; exact putSel_upk 5 hb_ rfl rfl rfl), (by (with_reducible repeat (first | refine blk_drewN ?_ _ | refine blk_drew ?_ | refine blk_alloc ?_ _)); exact BK101.out), (by (with_reducible repeat (first | refine blk_drewN ?_ _ | refine blk_drew ?_ | refine blk_alloc ?_ _)); exact BK108.out), (by (with_reducible repeat (first | refine blk_drewN ?_ _ | refine blk_drew ?_ | refine blk_alloc ?_ _)); exact BK109.out), (by (with_reducible repeat (first | refine blk_drewN ?_ _ | refine blk_drew ?_ | refine blk_alloc ?_ _)); exact BK110.out), (by repeat (first | (with_reducible first | exact HB.out | apply below_alloc | apply pw_below_drewN | apply below_drew1 | refine below_set ?_ GE101.out | refine below_set ?_ GE108.out | refine below_set ?_ GE109.out | refine below_set ?_ GE110.out) | exact HB.out)), Q_NB116_115, Q_NB115_116, z_BK115, Q_GW115, Q_GE115, Q_NB101_115, Q_NB115_101, Q_NB108_115, Q_NB115_108, Q_NB109_115, Q_NB115_109, Q_NB110_115, Q_NB115_110, z_BK116, Q_GW116, Q_GE116, Q_NB101_116, Q_NB116_101, Q_NB108_116, Q_NB116_108, Q_NB109_116, Q_NB116_109, Q_NB110_116, Q_NB116_110, fun h0_ => absurd ((hoff 8 (by kernel_rfl)).symm.trans h0_) (by decide), fun h0_ => absurd ((hoff 9 (by kernel_rfl)).symm.trans h0_) (by decide), Q_X6_, Q_X7_⟩
    refine steps_cons ?_ ?_
    · rintro b a w' ⟨gb115, gb116, m6_, m7_, ha, Q_BK101, Q_BK108, Q_BK109, Q_BK110, Q_HB, Q_NB116_115, Q_NB115_116, Q_BK115, Q_GW115, Q_GE115, Q_NB101_115, Q_NB115_101, Q_NB108_115, Q_NB115_108, Q_NB109_115, Q_NB115_109, Q_NB110_115, Q_NB115_110, Q_BK116, Q_GW116, Q_GE116, Q_NB101_116, Q_NB116_101, Q_NB108_116, Q_NB116_108, Q_NB109_116, Q_NB116_109, Q_NB110_116, Q_NB116_110, Q_BK115_e8, Q_BK116_e9, Q_X6_, Q_X7_⟩ hb_ hon hoff
      refine ⟨_, rfl, fun K hK => ?_⟩
      replace ha := Aside0.mk ha
      have BK101 := Aside0.mk Q_BK101
      have BK108 := Aside0.mk Q_BK108
      have BK109 := Aside0.mk Q_BK109
      have BK110 := Aside0.mk Q_BK110
      have HB := Aside0.mk Q_HB
      refine box_step ?hg (N := 18) ?hd (cs := #[.int .i64 0, .int .i64 0]) (t := 23) ?hr ?_; (case hd => rfl); (case hg => rfl); (case hr => first | (go_simp; done) | (go_simp; rfl))
      intro gb115 hg w44 hbox hb
      have n0_ := Aside0.mk (blk_below (g := gb101) (o := .cells #[.int .u8 a6_0, .int .u8 a6_1, .int .u8 a6_2] 43 (0, 0)) (by (with_reducible repeat (first | refine blk_drewN ?_ _ | refine blk_drew ?_ | refine blk_alloc ?_ _)); exact BK101.out) hb)
      have n1_ := Aside0.mk (blk_below (g := gb108) (o := .cells #[.int .i64 t102, .int .i64 t103] 23 (0, 0)) (by (with_reducible repeat (first | refine blk_drewN ?_ _ | refine blk_drew ?_ | refine blk_alloc ?_ _)); exact BK108.out) hb)
      have n2_ := Aside0.mk (blk_below (g := gb109) (o := .cells #[.int .i64 t104, .int .i64 t105] 23 (0, 0)) (by (with_reducible repeat (first | refine blk_drewN ?_ _ | refine blk_drew ?_ | refine blk_alloc ?_ _)); exact BK109.out) hb)
      have n3_ := Aside0.mk (blk_below (g := gb110) (o := .cells #[.int .i64 t106, .int .i64 t107] 23 (0, 0)) (by (with_reducible repeat (first | refine blk_drewN ?_ _ | refine blk_drew ?_ | refine blk_alloc ?_ _)); exact BK110.out) hb)
      have n4_ := Aside0.mk (below_step (by repeat (first | (with_reducible first | exact HB.out | apply below_alloc | apply pw_below_drewN | apply below_drew1 | refine below_set ?_ GE101.out | refine below_set ?_ GE108.out | refine below_set ?_ GE109.out | refine below_set ?_ GE110.out) | exact HB.out)) hb)
      have n5_ := Aside0.mk (hbox)
      have n6_ := Aside0.mk ((by rw [hg]; exact (below_size (by repeat (first | (with_reducible first | exact HB.out | apply below_alloc | apply pw_below_drewN | apply below_drew1 | refine below_set ?_ GE101.out | refine below_set ?_ GE108.out | refine below_set ?_ GE109.out | refine below_set ?_ GE110.out) | exact HB.out))) : w.heap.size ≤ gb115))
      have n7_ := Aside0.mk ((by rw [hg]; exact (below_size (by repeat (first | (with_reducible first | exact HB.out | apply below_alloc | apply pw_below_drewN | apply below_drew1 | refine below_set ?_ GE101.out | refine below_set ?_ GE108.out | refine below_set ?_ GE109.out | refine below_set ?_ GE110.out) | exact HB.out))) : w.heap.size ≤ gb115))
      have n8_ := Aside0.mk ((by rw [hg]; exact Nat.ne_of_lt (blk_lt (g := gb101) (o := .cells #[.int .u8 a6_0, .int .u8 a6_1, .int .u8 a6_2] 43 (0, 0)) (by (with_reducible repeat (first | refine blk_drewN ?_ _ | refine blk_drew ?_ | refine blk_alloc ?_ _)); exact BK101.out)) : gb101 ≠ gb115))
      have n9_ := Aside0.mk ((by rw [hg]; exact Nat.ne_of_gt (blk_lt (g := gb101) (o := .cells #[.int .u8 a6_0, .int .u8 a6_1, .int .u8 a6_2] 43 (0, 0)) (by (with_reducible repeat (first | refine blk_drewN ?_ _ | refine blk_drew ?_ | refine blk_alloc ?_ _)); exact BK101.out)) : gb115 ≠ gb101))
      have n10_ := Aside0.mk ((by rw [hg]; exact Nat.ne_of_lt (blk_lt (g := gb108) (o := .cells #[.int .i64 t102, .int .i64 t103] 23 (0, 0)) (by (with_reducible repeat (first | refine blk_drewN ?_ _ | refine blk_drew ?_ | refine blk_alloc ?_ _)); exact BK108.out)) : gb108 ≠ gb115))
      have n11_ := Aside0.mk ((by rw [hg]; exact Nat.ne_of_gt (blk_lt (g := gb108) (o := .cells #[.int .i64 t102, .int .i64 t103] 23 (0, 0)) (by (with_reducible repeat (first | refine blk_drewN ?_ _ | refine blk_drew ?_ | refine blk_alloc ?_ _)); exact BK108.out)) : gb115 ≠ gb108))
      have n12_ := Aside0.mk ((by rw [hg]; exact Nat.ne_of_lt (blk_lt (g := gb109) (o := .cells #[.int .i64 t104, .int .i64 t105] 23 (0, 0)) (by (with_reducible repeat (first | refine blk_drewN ?_ _ | refine blk_drew ?_ | refine blk_alloc ?_ _)); exact BK109.out)) : gb109 ≠ gb115))
      have n13_ := Aside0.mk ((by rw [hg]; exact Nat.ne_of_gt (blk_lt (g := gb109) (o := .cells #[.int .i64 t104, .int .i64 t105] 23 (0, 0)) (by (with_reducible repeat (first | refine blk_drewN ?_ _ | refine blk_drew ?_ | refine blk_alloc ?_ _)); exact BK109.out)) : gb115 ≠ gb109))
      have n14_ := Aside0.mk ((by rw [hg]; exact Nat.ne_of_lt (blk_lt (g := gb110) (o := .cells #[.int .i64 t106, .int .i64 t107] 23 (0, 0)) (by (with_reducible repeat (first | refine blk_drewN ?_ _ | refine blk_drew ?_ | refine blk_alloc ?_ _)); exact BK110.out)) : gb110 ≠ gb115))
      have n15_ := Aside0.mk ((by rw [hg]; exact Nat.ne_of_gt (blk_lt (g := gb110) (o := .cells #[.int .i64 t106, .int .i64 t107] 23 (0, 0)) (by (with_reducible repeat (first | refine blk_drewN ?_ _ | refine blk_drew ?_ | refine blk_alloc ?_ _)); exact BK110.out)) : gb115 ≠ gb110))
      have z_NB116_115 := fun (h0_ : up b 6 6 = true) (h1_ : up b 6 7 = true) => (show gb116 ≠ gb115 from ((by rw [hg]; exact Nat.ne_of_lt (blk_lt (g := gb116) (o := .cells #[.int .i64 0, .int .i64 0] 23 (0, 0)) (by (with_reducible repeat (first | refine blk_drewN ?_ _ | refine blk_drew ?_ | refine blk_alloc ?_ _)); exact (Q_BK116 h1_ (hoff 9 (by kernel_rfl))))) : gb116 ≠ gb115)))
      have z_NB115_116 := fun (h0_ : up b 6 6 = true) (h1_ : up b 6 7 = true) => (show gb115 ≠ gb116 from ((by rw [hg]; exact Nat.ne_of_gt (blk_lt (g := gb116) (o := .cells #[.int .i64 0, .int .i64 0] 23 (0, 0)) (by (with_reducible repeat (first | refine blk_drewN ?_ _ | refine blk_drew ?_ | refine blk_alloc ?_ _)); exact (Q_BK116 h1_ (hoff 9 (by kernel_rfl))))) : gb115 ≠ gb116)))
      have z_BK116 := fun (h0_ : b 7 = true) (h1_ : b 9 = false) => (show w44.heap[gb116]? = some (.cells #[.int .i64 0, .int .i64 0] 23 (0, 0)) from by first | exact (blk_below (g := gb116) (o := .cells #[.int .i64 0, .int .i64 0] 23 (0, 0)) (by (with_reducible repeat (first | refine blk_drewN ?_ _ | refine blk_drew ?_ | refine blk_alloc ?_ _)); exact (Q_BK116 h0_ h1_)) hb))
      clear BK101
      clear BK108
      clear BK109
      clear BK110
      clear HB
      have BK101 := n0_
      have BK108 := n1_
      have BK109 := n2_
      have BK110 := n3_
      have HB := n4_
      have BK115 := n5_
      have GW115 := n6_
      have GE115 := n7_
      have NB101_115 := n8_
      have NB115_101 := n9_
      have NB108_115 := n10_
      have NB115_108 := n11_
      have NB109_115 := n12_
      have NB115_109 := n13_
      have NB110_115 := n14_
      have NB115_110 := n15_
      clear n0_ n1_ n2_ n3_ n4_ n5_ n6_ n7_ n8_ n9_ n10_ n11_ n12_ n13_ n14_ n15_
      clear hb hbox hg
      refine hK.out _ _ ⟨gb115, gb116, (.pointer (some ⟨gb115, 0, none⟩)), m7_, (by rw [ha.out]; exact putSel_upk 6 hb_ rfl rfl rfl), (by (with_reducible repeat (first | refine blk_drewN ?_ _ | refine blk_drew ?_ | refine blk_alloc ?_ _)); exact BK101.out), (by (with_reducible repeat (first | refine blk_drewN ?_ _ | refine blk_drew ?_ | refine blk_alloc ?_ _)); exact BK108.out), (by (with_reducible repeat (first | refine blk_drewN ?_ _ | refine blk_drew ?_ | refine blk_alloc ?_ _)); exact BK109.out), (by (with_reducible repeat (first | refine blk_drewN ?_ _ | refine blk_drew ?_ | refine blk_alloc ?_ _)); exact BK110.out), (by repeat (first | (with_reducible first | exact HB.out | apply below_alloc | apply pw_below_drewN | apply below_drew1 | refine below_set ?_ GE101.out | refine below_set ?_ GE108.out | refine below_set ?_ GE109.out | refine below_set ?_ GE110.out | refine below_set ?_ GE115.out) | exact HB.out)), z_NB116_115, z_NB115_116, fun _ _ => (by (with_reducible repeat (first | refine blk_drewN ?_ _ | refine blk_drew ?_ | refine blk_alloc ?_ _)); exact BK115.out), fun _ => GW115.out, fun _ => GE115.out, fun _ => NB101_115.out, fun _ => NB115_101.out, fun _ => NB108_115.out, fun _ => NB115_108.out, fun _ => NB109_115.out, fun _ => NB115_109.out, fun _ => NB110_115.out, fun _ => NB115_110.out, z_BK116, Q_GW116, Q_GE116, Q_NB101_116, Q_NB116_101, Q_NB108_116, Q_NB116_108, Q_NB109_116, Q_NB116_109, Q_NB110_116, Q_NB116_110, fun h0_ => absurd ((hoff 8 (by kernel_rfl)).symm.trans h0_) (by decide), fun h0_ => absurd ((hoff 9 (by kernel_rfl)).symm.trans h0_) (by decide), fun _ => rfl, Q_X7_⟩
    refine steps_cons ?_ ?_
    · rintro b a w' ⟨gb115, gb116, m6_, m7_, ha, Q_BK101, Q_BK108, Q_BK109, Q_BK110, Q_HB, Q_NB116_115, Q_NB115_116, Q_BK115, Q_GW115, Q_GE115, Q_NB101_115, Q_NB115_101, Q_NB108_115, Q_NB115_108, Q_NB109_115, Q_NB115_109, Q_NB110_115, Q_NB115_110, Q_BK116, Q_GW116, Q_GE116, Q_NB101_116, Q_NB116_101, Q_NB108_116, Q_NB116_108, Q_NB109_116, Q_NB116_109, Q_NB110_116, Q_NB116_110, Q_BK115_e8, Q_BK116_e9, Q_X6_, Q_X7_⟩ hb_ hon hoff
      refine ⟨_, rfl, fun K hK => ?_⟩
      replace ha := Aside0.mk ha
      have BK101 := Aside0.mk Q_BK101
      have BK108 := Aside0.mk Q_BK108
      have BK109 := Aside0.mk Q_BK109
      have BK110 := Aside0.mk Q_BK110
      have HB := Aside0.mk Q_HB
      refine box_step ?hg (N := 19) ?hd (cs := #[.int .i64 0, .int .i64 0]) (t := 23) ?hr ?_; (case hd => rfl); (case hg => rfl); (case hr => first | (go_simp; done) | (go_simp; rfl))
      intro gb116 hg w44 hbox hb
      have n0_ := Aside0.mk (blk_below (g := gb101) (o := .cells #[.int .u8 a6_0, .int .u8 a6_1, .int .u8 a6_2] 43 (0, 0)) (by (with_reducible repeat (first | refine blk_drewN ?_ _ | refine blk_drew ?_ | refine blk_alloc ?_ _)); exact BK101.out) hb)
      have n1_ := Aside0.mk (blk_below (g := gb108) (o := .cells #[.int .i64 t102, .int .i64 t103] 23 (0, 0)) (by (with_reducible repeat (first | refine blk_drewN ?_ _ | refine blk_drew ?_ | refine blk_alloc ?_ _)); exact BK108.out) hb)
      have n2_ := Aside0.mk (blk_below (g := gb109) (o := .cells #[.int .i64 t104, .int .i64 t105] 23 (0, 0)) (by (with_reducible repeat (first | refine blk_drewN ?_ _ | refine blk_drew ?_ | refine blk_alloc ?_ _)); exact BK109.out) hb)
      have n3_ := Aside0.mk (blk_below (g := gb110) (o := .cells #[.int .i64 t106, .int .i64 t107] 23 (0, 0)) (by (with_reducible repeat (first | refine blk_drewN ?_ _ | refine blk_drew ?_ | refine blk_alloc ?_ _)); exact BK110.out) hb)
      have n4_ := Aside0.mk (below_step (by repeat (first | (with_reducible first | exact HB.out | apply below_alloc | apply pw_below_drewN | apply below_drew1 | refine below_set ?_ GE101.out | refine below_set ?_ GE108.out | refine below_set ?_ GE109.out | refine below_set ?_ GE110.out) | exact HB.out)) hb)
      have n5_ := Aside0.mk (hbox)
      have n6_ := Aside0.mk ((by rw [hg]; exact (below_size (by repeat (first | (with_reducible first | exact HB.out | apply below_alloc | apply pw_below_drewN | apply below_drew1 | refine below_set ?_ GE101.out | refine below_set ?_ GE108.out | refine below_set ?_ GE109.out | refine below_set ?_ GE110.out) | exact HB.out))) : w.heap.size ≤ gb116))
      have n7_ := Aside0.mk ((by rw [hg]; exact (below_size (by repeat (first | (with_reducible first | exact HB.out | apply below_alloc | apply pw_below_drewN | apply below_drew1 | refine below_set ?_ GE101.out | refine below_set ?_ GE108.out | refine below_set ?_ GE109.out | refine below_set ?_ GE110.out) | exact HB.out))) : w.heap.size ≤ gb116))
      have n8_ := Aside0.mk ((by rw [hg]; exact Nat.ne_of_lt (blk_lt (g := gb101) (o := .cells #[.int .u8 a6_0, .int .u8 a6_1, .int .u8 a6_2] 43 (0, 0)) (by (with_reducible repeat (first | refine blk_drewN ?_ _ | refine blk_drew ?_ | refine blk_alloc ?_ _)); exact BK101.out)) : gb101 ≠ gb116))
      have n9_ := Aside0.mk ((by rw [hg]; exact Nat.ne_of_gt (blk_lt (g := gb101) (o := .cells #[.int .u8 a6_0, .int .u8 a6_1, .int .u8 a6_2] 43 (0, 0)) (by (with_reducible repeat (first | refine blk_drewN ?_ _ | refine blk_drew ?_ | refine blk_alloc ?_ _)); exact BK101.out)) : gb116 ≠ gb101))
      have n10_ := Aside0.mk ((by rw [hg]; exact Nat.ne_of_lt (blk_lt (g := gb108) (o := .cells #[.int .i64 t102, .int .i64 t103] 23 (0, 0)) (by (with_reducible repeat (first | refine blk_drewN ?_ _ | refine blk_drew ?_ | refine blk_alloc ?_ _)); exact BK108.out)) : gb108 ≠ gb116))
      have n11_ := Aside0.mk ((by rw [hg]; exact Nat.ne_of_gt (blk_lt (g := gb108) (o := .cells #[.int .i64 t102, .int .i64 t103] 23 (0, 0)) (by (with_reducible repeat (first | refine blk_drewN ?_ _ | refine blk_drew ?_ | refine blk_alloc ?_ _)); exact BK108.out)) : gb116 ≠ gb108))
      have n12_ := Aside0.mk ((by rw [hg]; exact Nat.ne_of_lt (blk_lt (g := gb109) (o := .cells #[.int .i64 t104, .int .i64 t105] 23 (0, 0)) (by (with_reducible repeat (first | refine blk_drewN ?_ _ | refine blk_drew ?_ | refine blk_alloc ?_ _)); exact BK109.out)) : gb109 ≠ gb116))
      have n13_ := Aside0.mk ((by rw [hg]; exact Nat.ne_of_gt (blk_lt (g := gb109) (o := .cells #[.int .i64 t104, .int .i64 t105] 23 (0, 0)) (by (with_reducible repeat (first | refine blk_drewN ?_ _ | refine blk_drew ?_ | refine blk_alloc ?_ _)); exact BK109.out)) : gb116 ≠ gb109))
      have n14_ := Aside0.mk ((by rw [hg]; exact Nat.ne_of_lt (blk_lt (g := gb110) (o := .cells #[.int .i64 t106, .int .i64 t107] 23 (0, 0)) (by (with_reducible repeat (first | refine blk_drewN ?_ _ | refine blk_drew ?_ | refine blk_alloc ?_ _)); exact BK110.out)) : gb110 ≠ gb116))
      have n15_ := Aside0.mk ((by rw [hg]; exact Nat.ne_of_gt (blk_lt (g := gb110) (o := .cells #[.int .i64 t106, .int .i64 t107] 23 (0, 0)) (by (with_reducible repeat (first | refine blk_drewN ?_ _ | refine blk_drew ?_ | refine blk_alloc ?_ _)); exact BK110.out)) : gb116 ≠ gb110))
      have z_NB116_115 := fun (h0_ : up b 7 6 = true) (h1_ : up b 7 7 = true) => (show gb116 ≠ gb115 from ((by rw [hg]; exact Nat.ne_of_gt (blk_lt (g := gb115) (o := .cells #[.int .i64 0, .int .i64 0] 23 (0, 0)) (by (with_reducible repeat (first | refine blk_drewN ?_ _ | refine blk_drew ?_ | refine blk_alloc ?_ _)); exact (Q_BK115 h0_ (hoff 8 (by kernel_rfl))))) : gb116 ≠ gb115)))
      have z_NB115_116 := fun (h0_ : up b 7 6 = true) (h1_ : up b 7 7 = true) => (show gb115 ≠ gb116 from ((by rw [hg]; exact Nat.ne_of_lt (blk_lt (g := gb115) (o := .cells #[.int .i64 0, .int .i64 0] 23 (0, 0)) (by (with_reducible repeat (first | refine blk_drewN ?_ _ | refine blk_drew ?_ | refine blk_alloc ?_ _)); exact (Q_BK115 h0_ (hoff 8 (by kernel_rfl))))) : gb115 ≠ gb116)))
      have z_BK115 := fun (h0_ : b 6 = true) (h1_ : b 8 = false) => (show w44.heap[gb115]? = some (.cells #[.int .i64 0, .int .i64 0] 23 (0, 0)) from by first | exact (blk_below (g := gb115) (o := .cells #[.int .i64 0, .int .i64 0] 23 (0, 0)) (by (with_reducible repeat (first | refine blk_drewN ?_ _ | refine blk_drew ?_ | refine blk_alloc ?_ _)); exact (Q_BK115 h0_ h1_)) hb))
      clear BK101
      clear BK108
      clear BK109
      clear BK110
      clear HB
      have BK101 := n0_
      have BK108 := n1_
      have BK109 := n2_
      have BK110 := n3_
      have HB := n4_
      have BK116 := n5_
      have GW116 := n6_
      have GE116 := n7_
      have NB101_116 := n8_
      have NB116_101 := n9_
      have NB108_116 := n10_
      have NB116_108 := n11_
      have NB109_116 := n12_
      have NB116_109 := n13_
      have NB110_116 := n14_
      have NB116_110 := n15_
      clear n0_ n1_ n2_ n3_ n4_ n5_ n6_ n7_ n8_ n9_ n10_ n11_ n12_ n13_ n14_ n15_
      clear hb hbox hg
      refine hK.out _ _ ⟨gb115, gb116, m6_, (.pointer (some ⟨gb116, 0, none⟩)), (by rw [ha.out]; exact putSel_upk 7 hb_ rfl rfl rfl), (by (with_reducible repeat (first | refine blk_drewN ?_ _ | refine blk_drew ?_ | refine blk_alloc ?_ _)); exact BK101.out), (by (with_reducible repeat (first | refine blk_drewN ?_ _ | refine blk_drew ?_ | refine blk_alloc ?_ _)); exact BK108.out), (by (with_reducible repeat (first | refine blk_drewN ?_ _ | refine blk_drew ?_ | refine blk_alloc ?_ _)); exact BK109.out), (by (with_reducible repeat (first | refine blk_drewN ?_ _ | refine blk_drew ?_ | refine blk_alloc ?_ _)); exact BK110.out), (by repeat (first | (with_reducible first | exact HB.out | apply below_alloc | apply pw_below_drewN | apply below_drew1 | refine below_set ?_ GE101.out | refine below_set ?_ GE108.out | refine below_set ?_ GE109.out | refine below_set ?_ GE110.out | refine below_set ?_ GE116.out) | exact HB.out)), z_NB116_115, z_NB115_116, z_BK115, Q_GW115, Q_GE115, Q_NB101_115, Q_NB115_101, Q_NB108_115, Q_NB115_108, Q_NB109_115, Q_NB115_109, Q_NB110_115, Q_NB115_110, fun _ _ => (by (with_reducible repeat (first | refine blk_drewN ?_ _ | refine blk_drew ?_ | refine blk_alloc ?_ _)); exact BK116.out), fun _ => GW116.out, fun _ => GE116.out, fun _ => NB101_116.out, fun _ => NB116_101.out, fun _ => NB108_116.out, fun _ => NB116_108.out, fun _ => NB109_116.out, fun _ => NB116_109.out, fun _ => NB110_116.out, fun _ => NB116_110.out, fun h0_ => absurd ((hoff 8 (by kernel_rfl)).symm.trans h0_) (by decide), fun h0_ => absurd ((hoff 9 (by kernel_rfl)).symm.trans h0_) (by decide), Q_X6_, fun _ => rfl⟩
    refine steps_cons ?_ ?_
    · rintro b a w' ⟨gb115, gb116, m6_, m7_, ha, Q_BK101, Q_BK108, Q_BK109, Q_BK110, Q_HB, Q_NB116_115, Q_NB115_116, Q_BK115, Q_GW115, Q_GE115, Q_NB101_115, Q_NB115_101, Q_NB108_115, Q_NB115_108, Q_NB109_115, Q_NB115_109, Q_NB110_115, Q_NB115_110, Q_BK116, Q_GW116, Q_GE116, Q_NB101_116, Q_NB116_101, Q_NB108_116, Q_NB116_108, Q_NB109_116, Q_NB116_109, Q_NB110_116, Q_NB116_110, Q_BK115_e8, Q_BK116_e9, Q_X6_, Q_X7_⟩ hb_ hon hoff
      refine ⟨_, rfl, fun K hK => ?_⟩
      have e18 : a.tmps[18]? = some (m6_) := by rw [ha]; exact putSel_on (e := (6, 18, m6_)) 6 rfl rfl (hon 6 (by kernel_rfl)) rfl
      rw [Q_X6_ (hon 6 (by kernel_rfl))] at e18
      have e37 : a.tmps[37]? = some (.agg #[.int .i64 t111, .int .i64 t112]) := by rw [ha]; exact putSel_on (e := (2, 37, .agg #[.int .i64 t111, .int .i64 t112])) 2 rfl rfl (hon 2 (by kernel_rfl)) rfl
      replace ha := Aside0.mk ha
      have BK101 := Aside0.mk Q_BK101
      have BK108 := Aside0.mk Q_BK108
      have BK109 := Aside0.mk Q_BK109
      have BK110 := Aside0.mk Q_BK110
      have HB := Aside0.mk Q_HB
      have NB116_115 := Aside0.mk (Q_NB116_115 (hon 6 (by kernel_rfl)) (hon 7 (by kernel_rfl)))
      have NB115_116 := Aside0.mk (Q_NB115_116 (hon 6 (by kernel_rfl)) (hon 7 (by kernel_rfl)))
      have BK115 := Aside0.mk (Q_BK115 (hon 6 (by kernel_rfl)) hb_)
      have GW115 := Aside0.mk (Q_GW115 (hon 6 (by kernel_rfl)))
      have GE115 := Aside0.mk (Q_GE115 (hon 6 (by kernel_rfl)))
      have NB101_115 := Aside0.mk (Q_NB101_115 (hon 6 (by kernel_rfl)))
      have NB115_101 := Aside0.mk (Q_NB115_101 (hon 6 (by kernel_rfl)))
      have NB108_115 := Aside0.mk (Q_NB108_115 (hon 6 (by kernel_rfl)))
      have NB115_108 := Aside0.mk (Q_NB115_108 (hon 6 (by kernel_rfl)))
      have NB109_115 := Aside0.mk (Q_NB109_115 (hon 6 (by kernel_rfl)))
      have NB115_109 := Aside0.mk (Q_NB115_109 (hon 6 (by kernel_rfl)))
      have NB110_115 := Aside0.mk (Q_NB110_115 (hon 6 (by kernel_rfl)))
      have NB115_110 := Aside0.mk (Q_NB115_110 (hon 6 (by kernel_rfl)))
      have BK116 := Aside0.mk (Q_BK116 (hon 7 (by kernel_rfl)) (hoff 9 (by kernel_rfl)))
      have GW116 := Aside0.mk (Q_GW116 (hon 7 (by kernel_rfl)))
      have GE116 := Aside0.mk (Q_GE116 (hon 7 (by kernel_rfl)))
      have NB101_116 := Aside0.mk (Q_NB101_116 (hon 7 (by kernel_rfl)))
      have NB116_101 := Aside0.mk (Q_NB116_101 (hon 7 (by kernel_rfl)))
      have NB108_116 := Aside0.mk (Q_NB108_116 (hon 7 (by kernel_rfl)))
      have NB116_108 := Aside0.mk (Q_NB116_108 (hon 7 (by kernel_rfl)))
      have NB109_116 := Aside0.mk (Q_NB109_116 (hon 7 (by kernel_rfl)))
      have NB116_109 := Aside0.mk (Q_NB116_109 (hon 7 (by kernel_rfl)))
      have NB110_116 := Aside0.mk (Q_NB110_116 (hon 7 (by kernel_rfl)))
      have NB116_110 := Aside0.mk (Q_NB116_110 (hon 7 (by kernel_rfl)))
      have hs49 : w'.cell? ⟨gb115, 0, none⟩ = some (.int .i64 0) := (blk_cell BK115.out 0).trans rfl
      have hfs49 := blk_frozen BK115.out 0
      have hns49_0 := NB101_115.out
      have hns49_1 := NB108_115.out
      have hns49_2 := NB109_115.out
      have hns49_3 := NB110_115.out
      have hns49_5 := NB116_115.out
      have hms49_0 := NB115_101.out
      have hms49_1 := NB115_108.out
      have hms49_2 := NB115_109.out
      have hms49_3 := NB115_110.out
      have hms49_5 := NB115_116.out
      have hs50 : w'.cell? ⟨gb115, 1, none⟩ = some (.int .i64 0) := (blk_cell BK115.out 1).trans rfl
      have hfs50 := blk_frozen BK115.out 1
      have hns50_0 := NB101_115.out
      have hns50_1 := NB108_115.out
      have hns50_2 := NB109_115.out
      have hns50_3 := NB110_115.out
      have hns50_5 := NB116_115.out
      have hms50_0 := NB115_101.out
      have hms50_1 := NB115_108.out
      have hms50_2 := NB115_109.out
      have hms50_3 := NB115_110.out
      have hms50_5 := NB115_116.out
      refine skip_ (w1 := ?_) (by rfl) rfl ?_ ?_
      rotate_left
      · go_simp
        rfl
      refine hK.out _ _ ⟨gb115, gb116, m6_, m7_, (by rw [ha.out]; exact putSel_none (v := undef) rfl), (by (with_reducible repeat (first | refine blk_drewN ?_ _ | refine blk_drew ?_ | refine blk_alloc ?_ _)); refine blk_far ?_ NB101_115.out _; (with_reducible repeat (first | refine blk_drewN ?_ _ | refine blk_drew ?_ | refine blk_alloc ?_ _)); refine blk_far ?_ NB101_115.out _; (with_reducible repeat (first | refine blk_drewN ?_ _ | refine blk_drew ?_ | refine blk_alloc ?_ _)); exact BK101.out), (by (with_reducible repeat (first | refine blk_drewN ?_ _ | refine blk_drew ?_ | refine blk_alloc ?_ _)); refine blk_far ?_ NB108_115.out _; (with_reducible repeat (first | refine blk_drewN ?_ _ | refine blk_drew ?_ | refine blk_alloc ?_ _)); refine blk_far ?_ NB108_115.out _; (with_reducible repeat (first | refine blk_drewN ?_ _ | refine blk_drew ?_ | refine blk_alloc ?_ _)); exact BK108.out), (by (with_reducible repeat (first | refine blk_drewN ?_ _ | refine blk_drew ?_ | refine blk_alloc ?_ _)); refine blk_far ?_ NB109_115.out _; (with_reducible repeat (first | refine blk_drewN ?_ _ | refine blk_drew ?_ | refine blk_alloc ?_ _)); refine blk_far ?_ NB109_115.out _; (with_reducible repeat (first | refine blk_drewN ?_ _ | refine blk_drew ?_ | refine blk_alloc ?_ _)); exact BK109.out), (by (with_reducible repeat (first | refine blk_drewN ?_ _ | refine blk_drew ?_ | refine blk_alloc ?_ _)); refine blk_far ?_ NB110_115.out _; (with_reducible repeat (first | refine blk_drewN ?_ _ | refine blk_drew ?_ | refine blk_alloc ?_ _)); refine blk_far ?_ NB110_115.out _; (with_reducible repeat (first | refine blk_drewN ?_ _ | refine blk_drew ?_ | refine blk_alloc ?_ _)); exact BK110.out), (by repeat (first | (with_reducible first | exact HB.out | apply below_alloc | apply pw_below_drewN | apply below_drew1 | refine below_set ?_ GE101.out | refine below_set ?_ GE108.out | refine below_set ?_ GE109.out | refine below_set ?_ GE110.out | refine below_set ?_ GE115.out | refine below_set ?_ GE116.out) | exact HB.out)), fun _ _ => NB116_115.out, fun _ _ => NB115_116.out, fun _ h1_ => absurd ((up_self b 8).symm.trans h1_) (by decide), fun _ => GW115.out, fun _ => GE115.out, fun _ => NB101_115.out, fun _ => NB115_101.out, fun _ => NB108_115.out, fun _ => NB115_108.out, fun _ => NB109_115.out, fun _ => NB115_109.out, fun _ => NB110_115.out, fun _ => NB115_110.out, fun _ _ => (by (with_reducible repeat (first | refine blk_drewN ?_ _ | refine blk_drew ?_ | refine blk_alloc ?_ _)); refine blk_far ?_ NB116_115.out _; (with_reducible repeat (first | refine blk_drewN ?_ _ | refine blk_drew ?_ | refine blk_alloc ?_ _)); refine blk_far ?_ NB116_115.out _; (with_reducible repeat (first | refine blk_drewN ?_ _ | refine blk_drew ?_ | refine blk_alloc ?_ _)); exact BK116.out), fun _ => GW116.out, fun _ => GE116.out, fun _ => NB101_116.out, fun _ => NB116_101.out, fun _ => NB108_116.out, fun _ => NB116_108.out, fun _ => NB109_116.out, fun _ => NB116_109.out, fun _ => NB110_116.out, fun _ => NB116_110.out, fun _ => (by (with_reducible repeat (first | refine blk_drewN ?_ _ | refine blk_drew ?_ | refine blk_alloc ?_ _)); refine blk_put (cs := #[.int .i64 t111, .int .i64 0]) ?_ 1 _ rfl; (with_reducible repeat (first | refine blk_drewN ?_ _ | refine blk_drew ?_ | refine blk_alloc ?_ _)); refine blk_put (cs := #[.int .i64 0, .int .i64 0]) ?_ 0 _ rfl; (with_reducible repeat (first | refine blk_drewN ?_ _ | refine blk_drew ?_ | refine blk_alloc ?_ _)); exact BK115.out), fun h0_ => absurd ((hoff 9 (by kernel_rfl)).symm.trans h0_) (by decide), Q_X6_, Q_X7_⟩
    refine steps_cons ?_ ?_
    · rintro b a w' ⟨gb115, gb116, m6_, m7_, ha, Q_BK101, Q_BK108, Q_BK109, Q_BK110, Q_HB, Q_NB116_115, Q_NB115_116, Q_BK115, Q_GW115, Q_GE115, Q_NB101_115, Q_NB115_101, Q_NB108_115, Q_NB115_108, Q_NB109_115, Q_NB115_109, Q_NB110_115, Q_NB115_110, Q_BK116, Q_GW116, Q_GE116, Q_NB101_116, Q_NB116_101, Q_NB108_116, Q_NB116_108, Q_NB109_116, Q_NB116_109, Q_NB110_116, Q_NB116_110, Q_BK115_e8, Q_BK116_e9, Q_X6_, Q_X7_⟩ hb_ hon hoff
      refine ⟨_, rfl, fun K hK => ?_⟩
      have e19 : a.tmps[19]? = some (m7_) := by rw [ha]; exact putSel_on (e := (7, 19, m7_)) 7 rfl rfl (hon 7 (by kernel_rfl)) rfl
      rw [Q_X7_ (hon 7 (by kernel_rfl))] at e19
      have e40 : a.tmps[40]? = some (.agg #[.int .i64 t113, .int .i64 t114]) := by rw [ha]; exact putSel_on (e := (5, 40, .agg #[.int .i64 t113, .int .i64 t114])) 5 rfl rfl (hon 5 (by kernel_rfl)) rfl
      replace ha := Aside0.mk ha
      have BK101 := Aside0.mk Q_BK101
      have BK108 := Aside0.mk Q_BK108
      have BK109 := Aside0.mk Q_BK109
      have BK110 := Aside0.mk Q_BK110
      have HB := Aside0.mk Q_HB
      have NB116_115 := Aside0.mk (Q_NB116_115 (hon 6 (by kernel_rfl)) (hon 7 (by kernel_rfl)))
      have NB115_116 := Aside0.mk (Q_NB115_116 (hon 6 (by kernel_rfl)) (hon 7 (by kernel_rfl)))
      have GW115 := Aside0.mk (Q_GW115 (hon 6 (by kernel_rfl)))
      have GE115 := Aside0.mk (Q_GE115 (hon 6 (by kernel_rfl)))
      have NB101_115 := Aside0.mk (Q_NB101_115 (hon 6 (by kernel_rfl)))
      have NB115_101 := Aside0.mk (Q_NB115_101 (hon 6 (by kernel_rfl)))
      have NB108_115 := Aside0.mk (Q_NB108_115 (hon 6 (by kernel_rfl)))
      have NB115_108 := Aside0.mk (Q_NB115_108 (hon 6 (by kernel_rfl)))
      have NB109_115 := Aside0.mk (Q_NB109_115 (hon 6 (by kernel_rfl)))
      have NB115_109 := Aside0.mk (Q_NB115_109 (hon 6 (by kernel_rfl)))
      have NB110_115 := Aside0.mk (Q_NB110_115 (hon 6 (by kernel_rfl)))
      have NB115_110 := Aside0.mk (Q_NB115_110 (hon 6 (by kernel_rfl)))
      have BK116 := Aside0.mk (Q_BK116 (hon 7 (by kernel_rfl)) hb_)
      have GW116 := Aside0.mk (Q_GW116 (hon 7 (by kernel_rfl)))
      have GE116 := Aside0.mk (Q_GE116 (hon 7 (by kernel_rfl)))
      have NB101_116 := Aside0.mk (Q_NB101_116 (hon 7 (by kernel_rfl)))
      have NB116_101 := Aside0.mk (Q_NB116_101 (hon 7 (by kernel_rfl)))
      have NB108_116 := Aside0.mk (Q_NB108_116 (hon 7 (by kernel_rfl)))
      have NB116_108 := Aside0.mk (Q_NB116_108 (hon 7 (by kernel_rfl)))
      have NB109_116 := Aside0.mk (Q_NB109_116 (hon 7 (by kernel_rfl)))
      have NB116_109 := Aside0.mk (Q_NB116_109 (hon 7 (by kernel_rfl)))
      have NB110_116 := Aside0.mk (Q_NB110_116 (hon 7 (by kernel_rfl)))
      have NB116_110 := Aside0.mk (Q_NB116_110 (hon 7 (by kernel_rfl)))
      have BK115 := Aside0.mk (Q_BK115_e8 (hon 8 (by kernel_rfl)))
      have hs51 : w'.cell? ⟨gb116, 0, none⟩ = some (.int .i64 0) := (blk_cell BK116.out 0).trans rfl
      have hfs51 := blk_frozen BK116.out 0
      have hns51_0 := NB101_116.out
      have hns51_1 := NB108_116.out
      have hns51_2 := NB109_116.out
      have hns51_3 := NB110_116.out
      have hns51_4 := NB115_116.out
      have hms51_0 := NB116_101.out
      have hms51_1 := NB116_108.out
      have hms51_2 := NB116_109.out
      have hms51_3 := NB116_110.out
      have hms51_4 := NB116_115.out
      have hs52 : w'.cell? ⟨gb116, 1, none⟩ = some (.int .i64 0) := (blk_cell BK116.out 1).trans rfl
      have hfs52 := blk_frozen BK116.out 1
      have hns52_0 := NB101_116.out
      have hns52_1 := NB108_116.out
      have hns52_2 := NB109_116.out
      have hns52_3 := NB110_116.out
      have hns52_4 := NB115_116.out
      have hms52_0 := NB116_101.out
      have hms52_1 := NB116_108.out
      have hms52_2 := NB116_109.out
      have hms52_3 := NB116_110.out
      have hms52_4 := NB116_115.out
      refine skip_ (w1 := ?_) (by rfl) rfl ?_ ?_
      rotate_left
      · go_simp
        rfl
      refine hK.out _ _ ⟨gb115, gb116, m6_, m7_, (by rw [ha.out]; exact putSel_none (v := undef) rfl), (by (with_reducible repeat (first | refine blk_drewN ?_ _ | refine blk_drew ?_ | refine blk_alloc ?_ _)); refine blk_far ?_ NB101_116.out _; (with_reducible repeat (first | refine blk_drewN ?_ _ | refine blk_drew ?_ | refine blk_alloc ?_ _)); refine blk_far ?_ NB101_116.out _; (with_reducible repeat (first | refine blk_drewN ?_ _ | refine blk_drew ?_ | refine blk_alloc ?_ _)); exact BK101.out), (by (with_reducible repeat (first | refine blk_drewN ?_ _ | refine blk_drew ?_ | refine blk_alloc ?_ _)); refine blk_far ?_ NB108_116.out _; (with_reducible repeat (first | refine blk_drewN ?_ _ | refine blk_drew ?_ | refine blk_alloc ?_ _)); refine blk_far ?_ NB108_116.out _; (with_reducible repeat (first | refine blk_drewN ?_ _ | refine blk_drew ?_ | refine blk_alloc ?_ _)); exact BK108.out), (by (with_reducible repeat (first | refine blk_drewN ?_ _ | refine blk_drew ?_ | refine blk_alloc ?_ _)); refine blk_far ?_ NB109_116.out _; (with_reducible repeat (first | refine blk_drewN ?_ _ | refine blk_drew ?_ | refine blk_alloc ?_ _)); refine blk_far ?_ NB109_116.out _; (with_reducible repeat (first | refine blk_drewN ?_ _ | refine blk_drew ?_ | refine blk_alloc ?_ _)); exact BK109.out), (by (with_reducible repeat (first | refine blk_drewN ?_ _ | refine blk_drew ?_ | refine blk_alloc ?_ _)); refine blk_far ?_ NB110_116.out _; (with_reducible repeat (first | refine blk_drewN ?_ _ | refine blk_drew ?_ | refine blk_alloc ?_ _)); refine blk_far ?_ NB110_116.out _; (with_reducible repeat (first | refine blk_drewN ?_ _ | refine blk_drew ?_ | refine blk_alloc ?_ _)); exact BK110.out), (by repeat (first | (with_reducible first | exact HB.out | apply below_alloc | apply pw_below_drewN | apply below_drew1 | refine below_set ?_ GE101.out | refine below_set ?_ GE108.out | refine below_set ?_ GE109.out | refine below_set ?_ GE110.out | refine below_set ?_ GE115.out | refine below_set ?_ GE116.out) | exact HB.out)), fun _ _ => NB116_115.out, fun _ _ => NB115_116.out, fun _ h1_ => absurd ((hon 8 (by kernel_rfl)).symm.trans h1_) (by decide), fun _ => GW115.out, fun _ => GE115.out, fun _ => NB101_115.out, fun _ => NB115_101.out, fun _ => NB108_115.out, fun _ => NB115_108.out, fun _ => NB109_115.out, fun _ => NB115_109.out, fun _ => NB110_115.out, fun _ => NB115_110.out, fun _ h1_ => absurd ((up_self b 9).symm.trans h1_) (by decide), fun _ => GW116.out, fun _ => GE116.out, fun _ => NB101_116.out, fun _ => NB116_101.out, fun _ => NB108_116.out, fun _ => NB116_108.out, fun _ => NB109_116.out, fun _ => NB116_109.out, fun _ => NB110_116.out, fun _ => NB116_110.out, fun _ => (by (with_reducible repeat (first | refine blk_drewN ?_ _ | refine blk_drew ?_ | refine blk_alloc ?_ _)); refine blk_far ?_ NB115_116.out _; (with_reducible repeat (first | refine blk_drewN ?_ _ | refine blk_drew ?_ | refine blk_alloc ?_ _)); refine blk_far ?_ NB115_116.out _; (with_reducible repeat (first | refine blk_drewN ?_ _ | refine blk_drew ?_ | refine blk_alloc ?_ _)); exact BK115.out), fun _ => (by (with_reducible repeat (first | refine blk_drewN ?_ _ | refine blk_drew ?_ | refine blk_alloc ?_ _)); refine blk_put (cs := #[.int .i64 t113, .int .i64 0]) ?_ 1 _ rfl; (with_reducible repeat (first | refine blk_drewN ?_ _ | refine blk_drew ?_ | refine blk_alloc ?_ _)); refine blk_put (cs := #[.int .i64 0, .int .i64 0]) ?_ 0 _ rfl; (with_reducible repeat (first | refine blk_drewN ?_ _ | refine blk_drew ?_ | refine blk_alloc ?_ _)); exact BK116.out), Q_X6_, Q_X7_⟩
    exact steps_nil
  rintro b a w52 hall ⟨gb115, gb116, m6_, m7_, ha, Q_BK101, Q_BK108, Q_BK109, Q_BK110, Q_HB, Q_NB116_115, Q_NB115_116, Q_BK115, Q_GW115, Q_GE115, Q_NB101_115, Q_NB115_101, Q_NB108_115, Q_NB115_108, Q_NB109_115, Q_NB115_109, Q_NB110_115, Q_NB115_110, Q_BK116, Q_GW116, Q_GE116, Q_NB101_116, Q_NB116_101, Q_NB108_116, Q_NB116_108, Q_NB109_116, Q_NB116_109, Q_NB110_116, Q_NB116_110, Q_BK115_e8, Q_BK116_e9, Q_X6_, Q_X7_⟩
  clear BK101 BK108 BK109 BK110 HB
  have hb0_ := hall 0 (by kernel_rfl)
  have hb1_ := hall 1 (by kernel_rfl)
  have hb2_ := hall 2 (by kernel_rfl)
  have hb3_ := hall 3 (by kernel_rfl)
  have hb4_ := hall 4 (by kernel_rfl)
  have hb5_ := hall 5 (by kernel_rfl)
  have hb6_ := hall 6 (by kernel_rfl)
  have hb7_ := hall 7 (by kernel_rfl)
  have hb8_ := hall 8 (by kernel_rfl)
  have hb9_ := hall 9 (by kernel_rfl)
  subst ha
  obtain rfl := Q_X6_ hb6_
  obtain rfl := Q_X7_ hb7_
  simp only [putSel, hb0_, hb1_, hb2_, hb3_, hb4_, hb5_, hb6_, hb7_, hb8_, hb9_, if_true, Act.put, List.setIfInBounds_toArray, List.set_cons_zero, List.set_cons_succ]
  have BK101 := Aside0.mk Q_BK101
  clear Q_BK101
  have BK108 := Aside0.mk Q_BK108
  clear Q_BK108
  have BK109 := Aside0.mk Q_BK109
  clear Q_BK109
  have BK110 := Aside0.mk Q_BK110
  clear Q_BK110
  have HB := Aside0.mk Q_HB
  clear Q_HB
  have NB116_115 := Aside0.mk (Q_NB116_115 hb6_ hb7_)
  clear Q_NB116_115
  have NB115_116 := Aside0.mk (Q_NB115_116 hb6_ hb7_)
  clear Q_NB115_116
  clear Q_BK115
  have GW115 := Aside0.mk (Q_GW115 hb6_)
  clear Q_GW115
  have GE115 := Aside0.mk (Q_GE115 hb6_)
  clear Q_GE115
  have NB101_115 := Aside0.mk (Q_NB101_115 hb6_)
  clear Q_NB101_115
  have NB115_101 := Aside0.mk (Q_NB115_101 hb6_)
  clear Q_NB115_101
  have NB108_115 := Aside0.mk (Q_NB108_115 hb6_)
  clear Q_NB108_115
  have NB115_108 := Aside0.mk (Q_NB115_108 hb6_)
  clear Q_NB115_108
  have NB109_115 := Aside0.mk (Q_NB109_115 hb6_)
  clear Q_NB109_115
  have NB115_109 := Aside0.mk (Q_NB115_109 hb6_)
  clear Q_NB115_109
  have NB110_115 := Aside0.mk (Q_NB110_115 hb6_)
  clear Q_NB110_115
  have NB115_110 := Aside0.mk (Q_NB115_110 hb6_)
  clear Q_NB115_110
  clear Q_BK116
  have GW116 := Aside0.mk (Q_GW116 hb7_)
  clear Q_GW116
  have GE116 := Aside0.mk (Q_GE116 hb7_)
  clear Q_GE116
  have NB101_116 := Aside0.mk (Q_NB101_116 hb7_)
  clear Q_NB101_116
  have NB116_101 := Aside0.mk (Q_NB116_101 hb7_)
  clear Q_NB116_101
  have NB108_116 := Aside0.mk (Q_NB108_116 hb7_)
  clear Q_NB108_116
  have NB116_108 := Aside0.mk (Q_NB116_108 hb7_)
  clear Q_NB116_108
  have NB109_116 := Aside0.mk (Q_NB109_116 hb7_)
  clear Q_NB109_116
  have NB116_109 := Aside0.mk (Q_NB116_109 hb7_)
  clear Q_NB116_109
  have NB110_116 := Aside0.mk (Q_NB110_116 hb7_)
  clear Q_NB110_116
  have NB116_110 := Aside0.mk (Q_NB116_110 hb7_)
  clear Q_NB116_110
  have BK115 := Aside0.mk (Q_BK115_e8 hb8_)
  clear Q_BK115_e8
  have BK116 := Aside0.mk (Q_BK116_e9 hb9_)
  clear Q_BK116_e9
  clear hall hb0_ hb1_ hb2_ hb3_ hb4_ hb5_ hb6_ hb7_ hb8_ hb9_
  try go_wp2
  have hB := HB.out
  have i0 : IB _ gb108 t102 t103 := BK108.out
  have i1 : IB _ gb109 t104 t105 := BK109.out
  have i2 : IB _ gb110 t106 t107 := BK110.out
  have i3 : IB _ gb115 t111 t112 := BK115.out
  have i4 : IB _ gb116 t113 t114 := BK116.out
  clear BK101 BK108 BK109 BK110 BK115 BK116 HB
  have c0 := i0.c0; have d0 := i0.c1; have c1 := i1.c0; have d1 := i1.c1; have c2 := i2.c0; have d2 := i2.c1; have c3 := i3.c0; have d3 := i3.c1; have c4 := i4.c0; have d4 := i4.c1; 
  have kJ : eqI t111 t112 t111 t112 = true := by simp [eqI]
  have kM : eqI t113 t114 t113 t114 = true := by simp [eqI]
  refine o_start (S := (fun w' => Below w.heap.size w w' ∧ IB w' (gb108) (t102) (t103) ∧ IB w' (gb109) (t104) (t105) ∧ IB w' (gb110) (t106) (t107) ∧ IB w' (gb115) (t111) (t112) ∧ IB w' (gb116) (t113) (t114))) (ds := []) (.cons 0 1 (.cons 1 1 (.cons 2 2 (.cons 3 0 (.cons 4 0 (.cons 5 1 (.cons 6 1 (.cons 7 2 (.cons 8 0 (.cons 9 0 (.cons 10 0 (.cons 11 1 (.cons 12 1 (.cons 13 2 (.cons 14 0 (.cons 15 0 (.cons 16 0 (.cons 17 1 (.cons 18 1 (.cons 19 2 (.cons 20 0 (.cons 21 0 (.cons 22 0 (.cons 24 1 (.cons 23 2 (.cons 25 2 (.cons 26 0 (.cons 27 0 (.cons 28 0 (.cons 29 1 (.cons 30 2 (.cons 31 2 (.cons 32 0 (.cons 33 0 .nil)))))))))))))))))))))))))))))))))) (by kernel_rfl) (by kernel_rfl) (fun _ _ d _ _ h => by cases d <;> exact h) ⟨hB.drew, i0.drew, i1.drew, i2.drew, i3.drew, i4.drew⟩ (fun w1 hS => ?_)
  clear hB i0 i1 i2 i3 i4 c0 c1 c2 c3 c4 d0 d1 d2 d3 d4
  repeat' (first
    | (refine o_off (a' := ?_) rfl rfl (by rfl) ?_ ?_; rotate_left; (focus (simp only [Act.put, List.setIfInBounds_toArray, List.set_cons_zero, List.set_cons_succ, i64_w, i32_w]; rfl)))
    | (refine o_pure (v := ?_) (a' := ?_) rfl rfl (by rfl) ?_ ?_ ?_; rotate_left 2; (focus (intro w'; go_simp; with_reducible rfl)); (focus (simp only [Act.put, List.setIfInBounds_toArray, List.set_cons_zero, List.set_cons_succ, i64_w, i32_w]; rfl)))
    | (refine o_loadoff (a' := ?_) rfl rfl (by rfl) hS ?_ ?_; rotate_left; (focus (simp only [Act.put, List.setIfInBounds_toArray, List.set_cons_zero, List.set_cons_succ, i64_w, i32_w]; rfl)))
    | (refine o_load (v := ?_) (a' := ?_) rfl rfl (by rfl) hS ?_ ?_ ?_; rotate_left 2; (focus (rintro w' ⟨_, i0, i1, i2, i3, i4⟩; have c0 := i0.c0; have d0 := i0.c1; have c1 := i1.c0; have d1 := i1.c1; have c2 := i2.c0; have d2 := i2.c1; have c3 := i3.c0; have d3 := i3.c1; have c4 := i4.c0; have d4 := i4.c1; go_simp; with_reducible rfl)); (focus (simp only [Act.put, List.setIfInBounds_toArray, List.set_cons_zero, List.set_cons_succ, i64_w, i32_w]; rfl)))
    | (refine o_one rfl ?_)
    | (refine o_fork2 rfl rfl ?_ ?_)
    | (refine s_off (a' := ?_) rfl (by rfl) hS ?_ ?_; rotate_left; (focus (simp only [Act.put, List.setIfInBounds_toArray, List.set_cons_zero, List.set_cons_succ, i64_w, i32_w]; rfl)))
    | (refine s_call (f := 21) (a' := ?_) rfl (by rfl) rfl Try.func21 (by kernel_rfl) rfl (leq_at L1.out _) (by (try simp only [List.map_toArray, List.map_cons, List.map_nil]); first | done | rfl) (fun w' hb => ⟨below_call hS.1 hb, IB.below hS.2.1 hb, IB.below hS.2.2.1 hb, IB.below hS.2.2.2.1 hb, IB.below hS.2.2.2.2.1 hb, IB.below hS.2.2.2.2.2 hb⟩) ?_ ?_; rotate_left; (focus (simp only [Act.put, List.setIfInBounds_toArray, List.set_cons_zero, List.set_cons_succ, i64_w, i32_w]; rfl)); clear hS; intro w1 hb hS; clear hb)
    | (refine s_call (f := 21) (a' := ?_) rfl (by rfl) rfl Try.func21 (by kernel_rfl) rfl (leq_at L2.out _) (by (try simp only [List.map_toArray, List.map_cons, List.map_nil]); first | done | rfl) (fun w' hb => ⟨below_call hS.1 hb, IB.below hS.2.1 hb, IB.below hS.2.2.1 hb, IB.below hS.2.2.2.1 hb, IB.below hS.2.2.2.2.1 hb, IB.below hS.2.2.2.2.2 hb⟩) ?_ ?_; rotate_left; (focus (simp only [Act.put, List.setIfInBounds_toArray, List.set_cons_zero, List.set_cons_succ, i64_w, i32_w]; rfl)); clear hS; intro w1 hb hS; clear hb)
    | (refine s_call (f := 21) (a' := ?_) rfl (by rfl) rfl Try.func21 (by kernel_rfl) rfl (leq_at L3.out _) (by (try simp only [List.map_toArray, List.map_cons, List.map_nil]); first | done | rfl) (fun w' hb => ⟨below_call hS.1 hb, IB.below hS.2.1 hb, IB.below hS.2.2.1 hb, IB.below hS.2.2.2.1 hb, IB.below hS.2.2.2.2.1 hb, IB.below hS.2.2.2.2.2 hb⟩) ?_ ?_; rotate_left; (focus (simp only [Act.put, List.setIfInBounds_toArray, List.set_cons_zero, List.set_cons_succ, i64_w, i32_w]; rfl)); clear hS; intro w1 hb hS; clear hb)
    | (refine s_call (f := 21) (a' := ?_) rfl (by rfl) rfl Try.func21 (by kernel_rfl) rfl (leq_at L4.out _) (by (try simp only [List.map_toArray, List.map_cons, List.map_nil]); first | done | rfl) (fun w' hb => ⟨below_call hS.1 hb, IB.below hS.2.1 hb, IB.below hS.2.2.1 hb, IB.below hS.2.2.2.1 hb, IB.below hS.2.2.2.2.1 hb, IB.below hS.2.2.2.2.2 hb⟩) ?_ ?_; rotate_left; (focus (simp only [Act.put, List.setIfInBounds_toArray, List.set_cons_zero, List.set_cons_succ, i64_w, i32_w]; rfl)); clear hS; intro w1 hb hS; clear hb)
    | (refine s_call (f := 21) (a' := ?_) rfl (by rfl) rfl Try.func21 (by kernel_rfl) rfl (leq_at L5.out _) (by (try simp only [List.map_toArray, List.map_cons, List.map_nil]); first | done | rfl) (fun w' hb => ⟨below_call hS.1 hb, IB.below hS.2.1 hb, IB.below hS.2.2.1 hb, IB.below hS.2.2.2.1 hb, IB.below hS.2.2.2.2.1 hb, IB.below hS.2.2.2.2.2 hb⟩) ?_ ?_; rotate_left; (focus (simp only [Act.put, List.setIfInBounds_toArray, List.set_cons_zero, List.set_cons_succ, i64_w, i32_w]; rfl)); clear hS; intro w1 hb hS; clear hb)
    | (refine s_call (f := 21) (a' := ?_) rfl (by rfl) rfl Try.func21 (by kernel_rfl) rfl (leq_at L6.out _) (by (try simp only [List.map_toArray, List.map_cons, List.map_nil]); first | done | rfl) (fun w' hb => ⟨below_call hS.1 hb, IB.below hS.2.1 hb, IB.below hS.2.2.1 hb, IB.below hS.2.2.2.1 hb, IB.below hS.2.2.2.2.1 hb, IB.below hS.2.2.2.2.2 hb⟩) ?_ ?_; rotate_left; (focus (simp only [Act.put, List.setIfInBounds_toArray, List.set_cons_zero, List.set_cons_succ, i64_w, i32_w]; rfl)); clear hS; intro w1 hb hS; clear hb)
    | (refine s_call (f := 12) (a' := ?_) rfl (by rfl) rfl Try.func12 (by kernel_rfl) rfl (none_any _) (by (try simp only [List.map_toArray, List.map_cons, List.map_nil]); first | done | rfl) (fun w' hb => ⟨below_call hS.1 hb, IB.below hS.2.1 hb, IB.below hS.2.2.1 hb, IB.below hS.2.2.2.1 hb, IB.below hS.2.2.2.2.1 hb, IB.below hS.2.2.2.2.2 hb⟩) ?_ ?_; rotate_left; (focus (simp only [Act.put, List.setIfInBounds_toArray, List.set_cons_zero, List.set_cons_succ, i64_w, i32_w]; rfl)); clear hS; intro w1 hb hS; clear hb)
    | (refine s_call (f := 10) (a' := ?_) rfl (by rfl) rfl Try.func10 (by kernel_rfl) rfl (all_any _) (by (try simp only [List.map_toArray, List.map_cons, List.map_nil]); first | done | rfl) (fun w' hb => ⟨below_call hS.1 hb, IB.below hS.2.1 hb, IB.below hS.2.2.1 hb, IB.below hS.2.2.2.1 hb, IB.below hS.2.2.2.2.1 hb, IB.below hS.2.2.2.2.2 hb⟩) ?_ ?_; rotate_left; (focus (simp only [Act.put, List.setIfInBounds_toArray, List.set_cons_zero, List.set_cons_succ, i64_w, i32_w]; rfl)); clear hS; intro w1 hb hS; clear hb))
  refine o_done ?_
  obtain ⟨hB, i0, i1, i2, i3, i4⟩ := hS
  have c0 := i0.c0; have d0 := i0.c1; have c1 := i1.c0; have d1 := i1.c1; have c2 := i2.c0; have d2 := i2.c1; have c3 := i3.c0; have d3 := i3.c1; have c4 := i4.c0; have d4 := i4.c1; 
  go_wp2_with fail
  obtain ⟨v1, hv1⟩ : ∃ b, leqF t102 t103 t106 t107 = b := ⟨_, rfl⟩
  obtain ⟨v4, hv4⟩ : ∃ b, leqF t106 t107 t102 t103 = b := ⟨_, rfl⟩
  obtain ⟨v7, hv7⟩ : ∃ b, leqF t102 t103 t104 t105 = b := ⟨_, rfl⟩
  obtain ⟨v8, hv8⟩ : ∃ b, leqF t104 t105 t102 t103 = b := ⟨_, rfl⟩
  have e1 : v1 = true → (leqF t104 t105 t106 t107 == leqF t111 t112 t106 t107) = true := fun z => E1.out (hv1.trans z)
  have e2 : v4 = true → (leqF t106 t107 t104 t105 == leqF t106 t107 t113 t114) = true := fun z => E2.out (hv4.trans z)
  have e3 : v7 = true → v8 = true → eqI t102 t103 t104 t105 = true := fun z z' => E3.out (hv7.trans z) (hv8.trans z')
  have V1 := Lib.hid hv1; have V4 := Lib.hid hv4; have V7 := Lib.hid hv7; have V8 := Lib.hid hv8
  clear hv1 hv4 hv7 hv8 E1 E2 E3
  cases v1 <;> cases v4
  all_goals (first | replace e1 := e1 rfl | clear e1); (first | replace e2 := e2 rfl | clear e2)
  all_goals
    refine o_start (S := (fun w' => Below w.heap.size w w' ∧ IB w' (gb108) (t102) (t103) ∧ IB w' (gb109) (t104) (t105) ∧ IB w' (gb110) (t106) (t107) ∧ IB w' (gb115) (t111) (t112) ∧ IB w' (gb116) (t113) (t114))) (ds := []) (.cons 0 1 (.cons 1 1 (.cons 2 2 (.cons 3 0 (.cons 4 1 (.cons 5 1 (.cons 7 1 (.cons 8 1 (.cons 6 2 (.cons 9 2 (.cons 10 0 (.cons 11 0 (.cons 12 0 (.cons 13 1 (.cons 14 1 (.cons 15 2 (.cons 16 0 (.cons 17 1 (.cons 18 1 (.cons 20 1 (.cons 21 1 (.cons 19 2 (.cons 22 2 (.cons 23 0 (.cons 24 0 (.cons 25 0 .nil)))))))))))))))))))))))))) (by kernel_rfl) (by kernel_rfl) (fun _ _ d _ _ h => by cases d <;> exact h) ⟨hB.drew, i0.drew, i1.drew, i2.drew, i3.drew, i4.drew⟩ (fun w1 hS => ?_)
    clear hB i0 i1 i2 i3 i4 c0 c1 c2 c3 c4 d0 d1 d2 d3 d4
    repeat' (first
      | (refine o_off (a' := ?_) rfl rfl (by rfl) ?_ ?_; rotate_left; (focus (simp only [Act.put, List.setIfInBounds_toArray, List.set_cons_zero, List.set_cons_succ, i64_w, i32_w]; rfl)))
      | (refine o_pure (v := ?_) (a' := ?_) rfl rfl (by rfl) ?_ ?_ ?_; rotate_left 2; (focus (intro w'; go_simp; with_reducible rfl)); (focus (simp only [Act.put, List.setIfInBounds_toArray, List.set_cons_zero, List.set_cons_succ, i64_w, i32_w]; rfl)))
      | (refine o_loadoff (a' := ?_) rfl rfl (by rfl) hS ?_ ?_; rotate_left; (focus (simp only [Act.put, List.setIfInBounds_toArray, List.set_cons_zero, List.set_cons_succ, i64_w, i32_w]; rfl)))
      | (refine o_load (v := ?_) (a' := ?_) rfl rfl (by rfl) hS ?_ ?_ ?_; rotate_left 2; (focus (rintro w' ⟨_, i0, i1, i2, i3, i4⟩; have c0 := i0.c0; have d0 := i0.c1; have c1 := i1.c0; have d1 := i1.c1; have c2 := i2.c0; have d2 := i2.c1; have c3 := i3.c0; have d3 := i3.c1; have c4 := i4.c0; have d4 := i4.c1; go_simp; with_reducible rfl)); (focus (simp only [Act.put, List.setIfInBounds_toArray, List.set_cons_zero, List.set_cons_succ, i64_w, i32_w]; rfl)))
      | (refine o_one rfl ?_)
      | (refine o_fork2 rfl rfl ?_ ?_)
      | (refine s_off (a' := ?_) rfl (by rfl) hS ?_ ?_; rotate_left; (focus (simp only [Act.put, List.setIfInBounds_toArray, List.set_cons_zero, List.set_cons_succ, i64_w, i32_w]; rfl)))
      | (refine s_call (f := 21) (a' := ?_) rfl (by rfl) rfl Try.func21 (by kernel_rfl) rfl (leq_at V1.out _) (by (try simp only [List.map_toArray, List.map_cons, List.map_nil]); first | done | rfl) (fun w' hb => ⟨below_call hS.1 hb, IB.below hS.2.1 hb, IB.below hS.2.2.1 hb, IB.below hS.2.2.2.1 hb, IB.below hS.2.2.2.2.1 hb, IB.below hS.2.2.2.2.2 hb⟩) ?_ ?_; rotate_left; (focus (simp only [Act.put, List.setIfInBounds_toArray, List.set_cons_zero, List.set_cons_succ, i64_w, i32_w]; rfl)); clear hS; intro w1 hb hS; clear hb)
      | (refine s_call (f := 21) (a' := ?_) rfl (by rfl) rfl Try.func21 (by kernel_rfl) rfl (leq_at V4.out _) (by (try simp only [List.map_toArray, List.map_cons, List.map_nil]); first | done | rfl) (fun w' hb => ⟨below_call hS.1 hb, IB.below hS.2.1 hb, IB.below hS.2.2.1 hb, IB.below hS.2.2.2.1 hb, IB.below hS.2.2.2.2.1 hb, IB.below hS.2.2.2.2.2 hb⟩) ?_ ?_; rotate_left; (focus (simp only [Act.put, List.setIfInBounds_toArray, List.set_cons_zero, List.set_cons_succ, i64_w, i32_w]; rfl)); clear hS; intro w1 hb hS; clear hb)
      | (refine s_call (f := 21) (a' := ?_) rfl (by rfl) rfl Try.func21 (by kernel_rfl) rfl (leq_any t104 t105 t106 t107 _) (by (try simp only [List.map_toArray, List.map_cons, List.map_nil]); first | done | rfl) (fun w' hb => ⟨below_call hS.1 hb, IB.below hS.2.1 hb, IB.below hS.2.2.1 hb, IB.below hS.2.2.2.1 hb, IB.below hS.2.2.2.2.1 hb, IB.below hS.2.2.2.2.2 hb⟩) ?_ ?_; rotate_left; (focus (simp only [Act.put, List.setIfInBounds_toArray, List.set_cons_zero, List.set_cons_succ, i64_w, i32_w]; rfl)); clear hS; intro w1 hb hS; clear hb)
      | (refine s_call (f := 21) (a' := ?_) rfl (by rfl) rfl Try.func21 (by kernel_rfl) rfl (leq_any t111 t112 t106 t107 _) (by (try simp only [List.map_toArray, List.map_cons, List.map_nil]); first | done | rfl) (fun w' hb => ⟨below_call hS.1 hb, IB.below hS.2.1 hb, IB.below hS.2.2.1 hb, IB.below hS.2.2.2.1 hb, IB.below hS.2.2.2.2.1 hb, IB.below hS.2.2.2.2.2 hb⟩) ?_ ?_; rotate_left; (focus (simp only [Act.put, List.setIfInBounds_toArray, List.set_cons_zero, List.set_cons_succ, i64_w, i32_w]; rfl)); clear hS; intro w1 hb hS; clear hb)
      | (refine s_call (f := 21) (a' := ?_) rfl (by rfl) rfl Try.func21 (by kernel_rfl) rfl (leq_any t106 t107 t104 t105 _) (by (try simp only [List.map_toArray, List.map_cons, List.map_nil]); first | done | rfl) (fun w' hb => ⟨below_call hS.1 hb, IB.below hS.2.1 hb, IB.below hS.2.2.1 hb, IB.below hS.2.2.2.1 hb, IB.below hS.2.2.2.2.1 hb, IB.below hS.2.2.2.2.2 hb⟩) ?_ ?_; rotate_left; (focus (simp only [Act.put, List.setIfInBounds_toArray, List.set_cons_zero, List.set_cons_succ, i64_w, i32_w]; rfl)); clear hS; intro w1 hb hS; clear hb)
      | (refine s_call (f := 21) (a' := ?_) rfl (by rfl) rfl Try.func21 (by kernel_rfl) rfl (leq_any t106 t107 t113 t114 _) (by (try simp only [List.map_toArray, List.map_cons, List.map_nil]); first | done | rfl) (fun w' hb => ⟨below_call hS.1 hb, IB.below hS.2.1 hb, IB.below hS.2.2.1 hb, IB.below hS.2.2.2.1 hb, IB.below hS.2.2.2.2.1 hb, IB.below hS.2.2.2.2.2 hb⟩) ?_ ?_; rotate_left; (focus (simp only [Act.put, List.setIfInBounds_toArray, List.set_cons_zero, List.set_cons_succ, i64_w, i32_w]; rfl)); clear hS; intro w1 hb hS; clear hb))
    refine o_done ?_
    obtain ⟨hB, i0, i1, i2, i3, i4⟩ := hS
    have c0 := i0.c0; have d0 := i0.c1; have c1 := i1.c0; have d1 := i1.c1; have c2 := i2.c0; have d2 := i2.c1; have c3 := i3.c0; have d3 := i3.c1; have c4 := i4.c0; have d4 := i4.c1; 
    go_wp2_with fail
    cases v7
    · clear e3
      refine o_start (S := (fun w' => Below w.heap.size w w' ∧ IB w' (gb108) (t102) (t103) ∧ IB w' (gb109) (t104) (t105) ∧ IB w' (gb110) (t106) (t107) ∧ IB w' (gb115) (t111) (t112) ∧ IB w' (gb116) (t113) (t114))) (ds := []) (.cons 0 1 (.cons 1 1 (.cons 3 1 (.cons 4 1 (.cons 2 2 (.cons 5 2 (.cons 6 0 (.cons 7 0 (.cons 8 1 (.cons 9 1 (.cons 11 1 (.cons 12 1 (.cons 10 2 (.cons 13 2 (.cons 14 0 (.cons 15 0 (.cons 16 0 (.cons 17 1 (.cons 18 1 (.cons 19 2 (.cons 20 0 (.cons 21 0 (.cons 22 1 (.cons 23 1 (.cons 24 2 (.cons 25 0 (.cons 26 0 (.cons 27 1 (.cons 28 1 (.cons 29 2 (.cons 30 0 (.cons 31 0 (.cons 32 0 (.cons 33 1 (.cons 34 1 (.cons 35 0 (.cons 36 0 (.cons 37 0 (.cons 38 0 (.cons 39 2 (.cons 40 0 (.cons 41 0 .nil)))))))))))))))))))))))))))))))))))))))))) (by kernel_rfl) (by kernel_rfl) (fun _ _ d _ _ h => by cases d <;> exact h) ⟨hB.drew, i0.drew, i1.drew, i2.drew, i3.drew, i4.drew⟩ (fun w1 hS => ?_)
      clear hB i0 i1 i2 i3 i4 c0 c1 c2 c3 c4 d0 d1 d2 d3 d4
      repeat' (first
        | (refine o_off (a' := ?_) rfl rfl (by rfl) ?_ ?_; rotate_left; (focus (simp only [Act.put, List.setIfInBounds_toArray, List.set_cons_zero, List.set_cons_succ, i64_w, i32_w]; rfl)))
        | (refine o_pure (v := ?_) (a' := ?_) rfl rfl (by rfl) ?_ ?_ ?_; rotate_left 2; (focus (intro w'; go_simp; with_reducible rfl)); (focus (simp only [Act.put, List.setIfInBounds_toArray, List.set_cons_zero, List.set_cons_succ, i64_w, i32_w]; rfl)))
        | (refine o_loadoff (a' := ?_) rfl rfl (by rfl) hS ?_ ?_; rotate_left; (focus (simp only [Act.put, List.setIfInBounds_toArray, List.set_cons_zero, List.set_cons_succ, i64_w, i32_w]; rfl)))
        | (refine o_load (v := ?_) (a' := ?_) rfl rfl (by rfl) hS ?_ ?_ ?_; rotate_left 2; (focus (rintro w' ⟨_, i0, i1, i2, i3, i4⟩; have c0 := i0.c0; have d0 := i0.c1; have c1 := i1.c0; have d1 := i1.c1; have c2 := i2.c0; have d2 := i2.c1; have c3 := i3.c0; have d3 := i3.c1; have c4 := i4.c0; have d4 := i4.c1; go_simp; with_reducible rfl)); (focus (simp only [Act.put, List.setIfInBounds_toArray, List.set_cons_zero, List.set_cons_succ, i64_w, i32_w]; rfl)))
        | (refine o_one rfl ?_)
        | (refine o_fork2 rfl rfl ?_ ?_)
        | (refine s_off (a' := ?_) rfl (by rfl) hS ?_ ?_; rotate_left; (focus (simp only [Act.put, List.setIfInBounds_toArray, List.set_cons_zero, List.set_cons_succ, i64_w, i32_w]; rfl)))
        | (refine s_call (f := 24) (a' := ?_) rfl (by rfl) rfl Try.func24 (by kernel_rfl) rfl (join_at J1.out _) (by (try simp only [List.map_toArray, List.map_cons, List.map_nil]); first | done | rfl) (fun w' hb => ⟨below_call hS.1 hb, IB.below hS.2.1 hb, IB.below hS.2.2.1 hb, IB.below hS.2.2.2.1 hb, IB.below hS.2.2.2.2.1 hb, IB.below hS.2.2.2.2.2 hb⟩) ?_ ?_; rotate_left; (focus (simp only [Act.put, List.setIfInBounds_toArray, List.set_cons_zero, List.set_cons_succ, i64_w, i32_w]; rfl)); clear hS; intro w1 hb hS; clear hb)
        | (refine s_call (f := 24) (a' := ?_) rfl (by rfl) rfl Try.func24 (by kernel_rfl) rfl (join_at J2.out _) (by (try simp only [List.map_toArray, List.map_cons, List.map_nil]); first | done | rfl) (fun w' hb => ⟨below_call hS.1 hb, IB.below hS.2.1 hb, IB.below hS.2.2.1 hb, IB.below hS.2.2.2.1 hb, IB.below hS.2.2.2.2.1 hb, IB.below hS.2.2.2.2.2 hb⟩) ?_ ?_; rotate_left; (focus (simp only [Act.put, List.setIfInBounds_toArray, List.set_cons_zero, List.set_cons_succ, i64_w, i32_w]; rfl)); clear hS; intro w1 hb hS; clear hb)
        | (refine s_call (f := 25) (a' := ?_) rfl (by rfl) rfl Try.func25 (by kernel_rfl) rfl (meet_at M1.out _) (by (try simp only [List.map_toArray, List.map_cons, List.map_nil]); first | done | rfl) (fun w' hb => ⟨below_call hS.1 hb, IB.below hS.2.1 hb, IB.below hS.2.2.1 hb, IB.below hS.2.2.2.1 hb, IB.below hS.2.2.2.2.1 hb, IB.below hS.2.2.2.2.2 hb⟩) ?_ ?_; rotate_left; (focus (simp only [Act.put, List.setIfInBounds_toArray, List.set_cons_zero, List.set_cons_succ, i64_w, i32_w]; rfl)); clear hS; intro w1 hb hS; clear hb)
        | (refine s_call (f := 25) (a' := ?_) rfl (by rfl) rfl Try.func25 (by kernel_rfl) rfl (meet_at M2.out _) (by (try simp only [List.map_toArray, List.map_cons, List.map_nil]); first | done | rfl) (fun w' hb => ⟨below_call hS.1 hb, IB.below hS.2.1 hb, IB.below hS.2.2.1 hb, IB.below hS.2.2.2.1 hb, IB.below hS.2.2.2.2.1 hb, IB.below hS.2.2.2.2.2 hb⟩) ?_ ?_; rotate_left; (focus (simp only [Act.put, List.setIfInBounds_toArray, List.set_cons_zero, List.set_cons_succ, i64_w, i32_w]; rfl)); clear hS; intro w1 hb hS; clear hb)
        | (refine s_call (f := 21) (a' := ?_) rfl (by rfl) rfl Try.func21 (by kernel_rfl) rfl (leq_at L7.out _) (by (try simp only [List.map_toArray, List.map_cons, List.map_nil]); first | done | rfl) (fun w' hb => ⟨below_call hS.1 hb, IB.below hS.2.1 hb, IB.below hS.2.2.1 hb, IB.below hS.2.2.2.1 hb, IB.below hS.2.2.2.2.1 hb, IB.below hS.2.2.2.2.2 hb⟩) ?_ ?_; rotate_left; (focus (simp only [Act.put, List.setIfInBounds_toArray, List.set_cons_zero, List.set_cons_succ, i64_w, i32_w]; rfl)); clear hS; intro w1 hb hS; clear hb)
        | (refine s_call (f := 21) (a' := ?_) rfl (by rfl) rfl Try.func21 (by kernel_rfl) rfl (leq_at V7.out _) (by (try simp only [List.map_toArray, List.map_cons, List.map_nil]); first | done | rfl) (fun w' hb => ⟨below_call hS.1 hb, IB.below hS.2.1 hb, IB.below hS.2.2.1 hb, IB.below hS.2.2.2.1 hb, IB.below hS.2.2.2.2.1 hb, IB.below hS.2.2.2.2.2 hb⟩) ?_ ?_; rotate_left; (focus (simp only [Act.put, List.setIfInBounds_toArray, List.set_cons_zero, List.set_cons_succ, i64_w, i32_w]; rfl)); clear hS; intro w1 hb hS; clear hb)
        | (refine s_call (f := 21) (a' := ?_) rfl (by rfl) rfl Try.func21 (by kernel_rfl) rfl (leq_at V8.out _) (by (try simp only [List.map_toArray, List.map_cons, List.map_nil]); first | done | rfl) (fun w' hb => ⟨below_call hS.1 hb, IB.below hS.2.1 hb, IB.below hS.2.2.1 hb, IB.below hS.2.2.2.1 hb, IB.below hS.2.2.2.2.1 hb, IB.below hS.2.2.2.2.2 hb⟩) ?_ ?_; rotate_left; (focus (simp only [Act.put, List.setIfInBounds_toArray, List.set_cons_zero, List.set_cons_succ, i64_w, i32_w]; rfl)); clear hS; intro w1 hb hS; clear hb)
        | (refine s_call (f := 14) (a' := ?_) rfl (by rfl) rfl Try.func14 (by kernel_rfl) rfl (awakeL_any _) (by (try simp only [List.map_toArray, List.map_cons, List.map_nil]); first | done | rfl) (fun w' hb => ⟨below_call hS.1 hb, IB.below hS.2.1 hb, IB.below hS.2.2.1 hb, IB.below hS.2.2.2.1 hb, IB.below hS.2.2.2.2.1 hb, IB.below hS.2.2.2.2.2 hb⟩) ?_ ?_; rotate_left; (focus (simp only [Act.put, List.setIfInBounds_toArray, List.set_cons_zero, List.set_cons_succ, i64_w, i32_w]; rfl)); clear hS; intro w1 hb hS; clear hb))
      refine o_done ?_
      obtain ⟨hB, i0, i1, i2, i3, i4⟩ := hS
      have c0 := i0.c0; have d0 := i0.c1; have c1 := i1.c0; have d1 := i1.c1; have c2 := i2.c0; have d2 := i2.c1; have c3 := i3.c0; have d3 := i3.c1; have c4 := i4.c0; have d4 := i4.c1; 
      go_wp2_with fail
      go_ret
      exact ⟨rfl, hB⟩
    · cases v8
      · clear e3
        refine o_start (S := (fun w' => Below w.heap.size w w' ∧ IB w' (gb108) (t102) (t103) ∧ IB w' (gb109) (t104) (t105) ∧ IB w' (gb110) (t106) (t107) ∧ IB w' (gb115) (t111) (t112) ∧ IB w' (gb116) (t113) (t114))) (ds := []) (.cons 0 1 (.cons 1 1 (.cons 3 1 (.cons 4 1 (.cons 2 2 (.cons 5 2 (.cons 6 0 (.cons 7 0 (.cons 8 1 (.cons 9 1 (.cons 11 1 (.cons 12 1 (.cons 10 2 (.cons 13 2 (.cons 14 0 (.cons 15 0 (.cons 16 0 (.cons 17 1 (.cons 18 1 (.cons 19 2 (.cons 20 0 (.cons 21 0 (.cons 22 1 (.cons 23 1 (.cons 24 2 (.cons 25 0 (.cons 26 0 (.cons 27 1 (.cons 28 1 (.cons 29 2 (.cons 30 0 (.cons 31 0 (.cons 32 0 (.cons 33 1 (.cons 34 1 (.cons 35 0 (.cons 36 0 (.cons 37 0 (.cons 38 0 (.cons 39 2 (.cons 40 0 (.cons 41 0 .nil)))))))))))))))))))))))))))))))))))))))))) (by kernel_rfl) (by kernel_rfl) (fun _ _ d _ _ h => by cases d <;> exact h) ⟨hB.drew, i0.drew, i1.drew, i2.drew, i3.drew, i4.drew⟩ (fun w1 hS => ?_)
        clear hB i0 i1 i2 i3 i4 c0 c1 c2 c3 c4 d0 d1 d2 d3 d4
        repeat' (first
          | (refine o_off (a' := ?_) rfl rfl (by rfl) ?_ ?_; rotate_left; (focus (simp only [Act.put, List.setIfInBounds_toArray, List.set_cons_zero, List.set_cons_succ, i64_w, i32_w]; rfl)))
          | (refine o_pure (v := ?_) (a' := ?_) rfl rfl (by rfl) ?_ ?_ ?_; rotate_left 2; (focus (intro w'; go_simp; with_reducible rfl)); (focus (simp only [Act.put, List.setIfInBounds_toArray, List.set_cons_zero, List.set_cons_succ, i64_w, i32_w]; rfl)))
          | (refine o_loadoff (a' := ?_) rfl rfl (by rfl) hS ?_ ?_; rotate_left; (focus (simp only [Act.put, List.setIfInBounds_toArray, List.set_cons_zero, List.set_cons_succ, i64_w, i32_w]; rfl)))
          | (refine o_load (v := ?_) (a' := ?_) rfl rfl (by rfl) hS ?_ ?_ ?_; rotate_left 2; (focus (rintro w' ⟨_, i0, i1, i2, i3, i4⟩; have c0 := i0.c0; have d0 := i0.c1; have c1 := i1.c0; have d1 := i1.c1; have c2 := i2.c0; have d2 := i2.c1; have c3 := i3.c0; have d3 := i3.c1; have c4 := i4.c0; have d4 := i4.c1; go_simp; with_reducible rfl)); (focus (simp only [Act.put, List.setIfInBounds_toArray, List.set_cons_zero, List.set_cons_succ, i64_w, i32_w]; rfl)))
          | (refine o_one rfl ?_)
          | (refine o_fork2 rfl rfl ?_ ?_)
          | (refine s_off (a' := ?_) rfl (by rfl) hS ?_ ?_; rotate_left; (focus (simp only [Act.put, List.setIfInBounds_toArray, List.set_cons_zero, List.set_cons_succ, i64_w, i32_w]; rfl)))
          | (refine s_call (f := 24) (a' := ?_) rfl (by rfl) rfl Try.func24 (by kernel_rfl) rfl (join_at J1.out _) (by (try simp only [List.map_toArray, List.map_cons, List.map_nil]); first | done | rfl) (fun w' hb => ⟨below_call hS.1 hb, IB.below hS.2.1 hb, IB.below hS.2.2.1 hb, IB.below hS.2.2.2.1 hb, IB.below hS.2.2.2.2.1 hb, IB.below hS.2.2.2.2.2 hb⟩) ?_ ?_; rotate_left; (focus (simp only [Act.put, List.setIfInBounds_toArray, List.set_cons_zero, List.set_cons_succ, i64_w, i32_w]; rfl)); clear hS; intro w1 hb hS; clear hb)
          | (refine s_call (f := 24) (a' := ?_) rfl (by rfl) rfl Try.func24 (by kernel_rfl) rfl (join_at J2.out _) (by (try simp only [List.map_toArray, List.map_cons, List.map_nil]); first | done | rfl) (fun w' hb => ⟨below_call hS.1 hb, IB.below hS.2.1 hb, IB.below hS.2.2.1 hb, IB.below hS.2.2.2.1 hb, IB.below hS.2.2.2.2.1 hb, IB.below hS.2.2.2.2.2 hb⟩) ?_ ?_; rotate_left; (focus (simp only [Act.put, List.setIfInBounds_toArray, List.set_cons_zero, List.set_cons_succ, i64_w, i32_w]; rfl)); clear hS; intro w1 hb hS; clear hb)
          | (refine s_call (f := 25) (a' := ?_) rfl (by rfl) rfl Try.func25 (by kernel_rfl) rfl (meet_at M1.out _) (by (try simp only [List.map_toArray, List.map_cons, List.map_nil]); first | done | rfl) (fun w' hb => ⟨below_call hS.1 hb, IB.below hS.2.1 hb, IB.below hS.2.2.1 hb, IB.below hS.2.2.2.1 hb, IB.below hS.2.2.2.2.1 hb, IB.below hS.2.2.2.2.2 hb⟩) ?_ ?_; rotate_left; (focus (simp only [Act.put, List.setIfInBounds_toArray, List.set_cons_zero, List.set_cons_succ, i64_w, i32_w]; rfl)); clear hS; intro w1 hb hS; clear hb)
          | (refine s_call (f := 25) (a' := ?_) rfl (by rfl) rfl Try.func25 (by kernel_rfl) rfl (meet_at M2.out _) (by (try simp only [List.map_toArray, List.map_cons, List.map_nil]); first | done | rfl) (fun w' hb => ⟨below_call hS.1 hb, IB.below hS.2.1 hb, IB.below hS.2.2.1 hb, IB.below hS.2.2.2.1 hb, IB.below hS.2.2.2.2.1 hb, IB.below hS.2.2.2.2.2 hb⟩) ?_ ?_; rotate_left; (focus (simp only [Act.put, List.setIfInBounds_toArray, List.set_cons_zero, List.set_cons_succ, i64_w, i32_w]; rfl)); clear hS; intro w1 hb hS; clear hb)
          | (refine s_call (f := 21) (a' := ?_) rfl (by rfl) rfl Try.func21 (by kernel_rfl) rfl (leq_at L7.out _) (by (try simp only [List.map_toArray, List.map_cons, List.map_nil]); first | done | rfl) (fun w' hb => ⟨below_call hS.1 hb, IB.below hS.2.1 hb, IB.below hS.2.2.1 hb, IB.below hS.2.2.2.1 hb, IB.below hS.2.2.2.2.1 hb, IB.below hS.2.2.2.2.2 hb⟩) ?_ ?_; rotate_left; (focus (simp only [Act.put, List.setIfInBounds_toArray, List.set_cons_zero, List.set_cons_succ, i64_w, i32_w]; rfl)); clear hS; intro w1 hb hS; clear hb)
          | (refine s_call (f := 21) (a' := ?_) rfl (by rfl) rfl Try.func21 (by kernel_rfl) rfl (leq_at V7.out _) (by (try simp only [List.map_toArray, List.map_cons, List.map_nil]); first | done | rfl) (fun w' hb => ⟨below_call hS.1 hb, IB.below hS.2.1 hb, IB.below hS.2.2.1 hb, IB.below hS.2.2.2.1 hb, IB.below hS.2.2.2.2.1 hb, IB.below hS.2.2.2.2.2 hb⟩) ?_ ?_; rotate_left; (focus (simp only [Act.put, List.setIfInBounds_toArray, List.set_cons_zero, List.set_cons_succ, i64_w, i32_w]; rfl)); clear hS; intro w1 hb hS; clear hb)
          | (refine s_call (f := 21) (a' := ?_) rfl (by rfl) rfl Try.func21 (by kernel_rfl) rfl (leq_at V8.out _) (by (try simp only [List.map_toArray, List.map_cons, List.map_nil]); first | done | rfl) (fun w' hb => ⟨below_call hS.1 hb, IB.below hS.2.1 hb, IB.below hS.2.2.1 hb, IB.below hS.2.2.2.1 hb, IB.below hS.2.2.2.2.1 hb, IB.below hS.2.2.2.2.2 hb⟩) ?_ ?_; rotate_left; (focus (simp only [Act.put, List.setIfInBounds_toArray, List.set_cons_zero, List.set_cons_succ, i64_w, i32_w]; rfl)); clear hS; intro w1 hb hS; clear hb)
          | (refine s_call (f := 14) (a' := ?_) rfl (by rfl) rfl Try.func14 (by kernel_rfl) rfl (awakeL_any _) (by (try simp only [List.map_toArray, List.map_cons, List.map_nil]); first | done | rfl) (fun w' hb => ⟨below_call hS.1 hb, IB.below hS.2.1 hb, IB.below hS.2.2.1 hb, IB.below hS.2.2.2.1 hb, IB.below hS.2.2.2.2.1 hb, IB.below hS.2.2.2.2.2 hb⟩) ?_ ?_; rotate_left; (focus (simp only [Act.put, List.setIfInBounds_toArray, List.set_cons_zero, List.set_cons_succ, i64_w, i32_w]; rfl)); clear hS; intro w1 hb hS; clear hb))
        refine o_done ?_
        obtain ⟨hB, i0, i1, i2, i3, i4⟩ := hS
        have c0 := i0.c0; have d0 := i0.c1; have c1 := i1.c0; have d1 := i1.c1; have c2 := i2.c0; have d2 := i2.c1; have c3 := i3.c0; have d3 := i3.c1; have c4 := i4.c0; have d4 := i4.c1; 
        go_wp2_with fail
        go_ret
        exact ⟨rfl, hB⟩
      · replace e3 := e3 rfl rfl
        have e3a : (t102 == t104) = true := (and_two e3).1
        have e3b : (t103 == t105) = true := (and_two e3).2
        clear e3
        refine o_start (S := (fun w' => Below w.heap.size w w' ∧ IB w' (gb108) (t102) (t103) ∧ IB w' (gb109) (t104) (t105) ∧ IB w' (gb110) (t106) (t107) ∧ IB w' (gb115) (t111) (t112) ∧ IB w' (gb116) (t113) (t114))) (ds := []) (.cons 0 1 (.cons 1 1 (.cons 3 1 (.cons 4 1 (.cons 2 2 (.cons 5 2 (.cons 6 0 (.cons 7 0 (.cons 8 1 (.cons 9 1 (.cons 11 1 (.cons 12 1 (.cons 10 2 (.cons 13 2 (.cons 14 0 (.cons 15 0 (.cons 16 0 (.cons 17 1 (.cons 18 1 (.cons 19 2 (.cons 20 0 (.cons 21 0 (.cons 22 1 (.cons 23 1 (.cons 24 2 (.cons 25 0 (.cons 26 0 (.cons 27 1 (.cons 28 1 (.cons 29 2 (.cons 30 0 (.cons 31 0 (.cons 32 0 (.cons 33 1 (.cons 34 1 (.cons 35 0 (.cons 36 0 (.cons 37 0 (.cons 38 0 (.cons 39 2 (.cons 40 0 (.cons 41 0 .nil)))))))))))))))))))))))))))))))))))))))))) (by kernel_rfl) (by kernel_rfl) (fun _ _ d _ _ h => by cases d <;> exact h) ⟨hB.drew, i0.drew, i1.drew, i2.drew, i3.drew, i4.drew⟩ (fun w1 hS => ?_)
        clear hB i0 i1 i2 i3 i4 c0 c1 c2 c3 c4 d0 d1 d2 d3 d4
        repeat' (first
          | (refine o_off (a' := ?_) rfl rfl (by rfl) ?_ ?_; rotate_left; (focus (simp only [Act.put, List.setIfInBounds_toArray, List.set_cons_zero, List.set_cons_succ, i64_w, i32_w]; rfl)))
          | (refine o_pure (v := ?_) (a' := ?_) rfl rfl (by rfl) ?_ ?_ ?_; rotate_left 2; (focus (intro w'; go_simp; with_reducible rfl)); (focus (simp only [Act.put, List.setIfInBounds_toArray, List.set_cons_zero, List.set_cons_succ, i64_w, i32_w]; rfl)))
          | (refine o_loadoff (a' := ?_) rfl rfl (by rfl) hS ?_ ?_; rotate_left; (focus (simp only [Act.put, List.setIfInBounds_toArray, List.set_cons_zero, List.set_cons_succ, i64_w, i32_w]; rfl)))
          | (refine o_load (v := ?_) (a' := ?_) rfl rfl (by rfl) hS ?_ ?_ ?_; rotate_left 2; (focus (rintro w' ⟨_, i0, i1, i2, i3, i4⟩; have c0 := i0.c0; have d0 := i0.c1; have c1 := i1.c0; have d1 := i1.c1; have c2 := i2.c0; have d2 := i2.c1; have c3 := i3.c0; have d3 := i3.c1; have c4 := i4.c0; have d4 := i4.c1; go_simp; with_reducible rfl)); (focus (simp only [Act.put, List.setIfInBounds_toArray, List.set_cons_zero, List.set_cons_succ, i64_w, i32_w]; rfl)))
          | (refine o_one rfl ?_)
          | (refine o_fork2 rfl rfl ?_ ?_)
          | (refine s_off (a' := ?_) rfl (by rfl) hS ?_ ?_; rotate_left; (focus (simp only [Act.put, List.setIfInBounds_toArray, List.set_cons_zero, List.set_cons_succ, i64_w, i32_w]; rfl)))
          | (refine s_call (f := 24) (a' := ?_) rfl (by rfl) rfl Try.func24 (by kernel_rfl) rfl (join_at J1.out _) (by (try simp only [List.map_toArray, List.map_cons, List.map_nil]); first | done | rfl) (fun w' hb => ⟨below_call hS.1 hb, IB.below hS.2.1 hb, IB.below hS.2.2.1 hb, IB.below hS.2.2.2.1 hb, IB.below hS.2.2.2.2.1 hb, IB.below hS.2.2.2.2.2 hb⟩) ?_ ?_; rotate_left; (focus (simp only [Act.put, List.setIfInBounds_toArray, List.set_cons_zero, List.set_cons_succ, i64_w, i32_w]; rfl)); clear hS; intro w1 hb hS; clear hb)
          | (refine s_call (f := 24) (a' := ?_) rfl (by rfl) rfl Try.func24 (by kernel_rfl) rfl (join_at J2.out _) (by (try simp only [List.map_toArray, List.map_cons, List.map_nil]); first | done | rfl) (fun w' hb => ⟨below_call hS.1 hb, IB.below hS.2.1 hb, IB.below hS.2.2.1 hb, IB.below hS.2.2.2.1 hb, IB.below hS.2.2.2.2.1 hb, IB.below hS.2.2.2.2.2 hb⟩) ?_ ?_; rotate_left; (focus (simp only [Act.put, List.setIfInBounds_toArray, List.set_cons_zero, List.set_cons_succ, i64_w, i32_w]; rfl)); clear hS; intro w1 hb hS; clear hb)
          | (refine s_call (f := 25) (a' := ?_) rfl (by rfl) rfl Try.func25 (by kernel_rfl) rfl (meet_at M1.out _) (by (try simp only [List.map_toArray, List.map_cons, List.map_nil]); first | done | rfl) (fun w' hb => ⟨below_call hS.1 hb, IB.below hS.2.1 hb, IB.below hS.2.2.1 hb, IB.below hS.2.2.2.1 hb, IB.below hS.2.2.2.2.1 hb, IB.below hS.2.2.2.2.2 hb⟩) ?_ ?_; rotate_left; (focus (simp only [Act.put, List.setIfInBounds_toArray, List.set_cons_zero, List.set_cons_succ, i64_w, i32_w]; rfl)); clear hS; intro w1 hb hS; clear hb)
          | (refine s_call (f := 25) (a' := ?_) rfl (by rfl) rfl Try.func25 (by kernel_rfl) rfl (meet_at M2.out _) (by (try simp only [List.map_toArray, List.map_cons, List.map_nil]); first | done | rfl) (fun w' hb => ⟨below_call hS.1 hb, IB.below hS.2.1 hb, IB.below hS.2.2.1 hb, IB.below hS.2.2.2.1 hb, IB.below hS.2.2.2.2.1 hb, IB.below hS.2.2.2.2.2 hb⟩) ?_ ?_; rotate_left; (focus (simp only [Act.put, List.setIfInBounds_toArray, List.set_cons_zero, List.set_cons_succ, i64_w, i32_w]; rfl)); clear hS; intro w1 hb hS; clear hb)
          | (refine s_call (f := 21) (a' := ?_) rfl (by rfl) rfl Try.func21 (by kernel_rfl) rfl (leq_at L7.out _) (by (try simp only [List.map_toArray, List.map_cons, List.map_nil]); first | done | rfl) (fun w' hb => ⟨below_call hS.1 hb, IB.below hS.2.1 hb, IB.below hS.2.2.1 hb, IB.below hS.2.2.2.1 hb, IB.below hS.2.2.2.2.1 hb, IB.below hS.2.2.2.2.2 hb⟩) ?_ ?_; rotate_left; (focus (simp only [Act.put, List.setIfInBounds_toArray, List.set_cons_zero, List.set_cons_succ, i64_w, i32_w]; rfl)); clear hS; intro w1 hb hS; clear hb)
          | (refine s_call (f := 21) (a' := ?_) rfl (by rfl) rfl Try.func21 (by kernel_rfl) rfl (leq_at V7.out _) (by (try simp only [List.map_toArray, List.map_cons, List.map_nil]); first | done | rfl) (fun w' hb => ⟨below_call hS.1 hb, IB.below hS.2.1 hb, IB.below hS.2.2.1 hb, IB.below hS.2.2.2.1 hb, IB.below hS.2.2.2.2.1 hb, IB.below hS.2.2.2.2.2 hb⟩) ?_ ?_; rotate_left; (focus (simp only [Act.put, List.setIfInBounds_toArray, List.set_cons_zero, List.set_cons_succ, i64_w, i32_w]; rfl)); clear hS; intro w1 hb hS; clear hb)
          | (refine s_call (f := 21) (a' := ?_) rfl (by rfl) rfl Try.func21 (by kernel_rfl) rfl (leq_at V8.out _) (by (try simp only [List.map_toArray, List.map_cons, List.map_nil]); first | done | rfl) (fun w' hb => ⟨below_call hS.1 hb, IB.below hS.2.1 hb, IB.below hS.2.2.1 hb, IB.below hS.2.2.2.1 hb, IB.below hS.2.2.2.2.1 hb, IB.below hS.2.2.2.2.2 hb⟩) ?_ ?_; rotate_left; (focus (simp only [Act.put, List.setIfInBounds_toArray, List.set_cons_zero, List.set_cons_succ, i64_w, i32_w]; rfl)); clear hS; intro w1 hb hS; clear hb)
          | (refine s_call (f := 14) (a' := ?_) rfl (by rfl) rfl Try.func14 (by kernel_rfl) rfl (awakeL_any _) (by (try simp only [List.map_toArray, List.map_cons, List.map_nil]); first | done | rfl) (fun w' hb => ⟨below_call hS.1 hb, IB.below hS.2.1 hb, IB.below hS.2.2.1 hb, IB.below hS.2.2.2.1 hb, IB.below hS.2.2.2.2.1 hb, IB.below hS.2.2.2.2.2 hb⟩) ?_ ?_; rotate_left; (focus (simp only [Act.put, List.setIfInBounds_toArray, List.set_cons_zero, List.set_cons_succ, i64_w, i32_w]; rfl)); clear hS; intro w1 hb hS; clear hb))
        refine o_done ?_
        obtain ⟨hB, i0, i1, i2, i3, i4⟩ := hS
        have c0 := i0.c0; have d0 := i0.c1; have c1 := i1.c0; have d1 := i1.c1; have c2 := i2.c0; have d2 := i2.c1; have c3 := i3.c0; have d3 := i3.c1; have c4 := i4.c0; have d4 := i4.c1; 
        go_wp2_with fail
        go_ret
        exact ⟨rfl, hB⟩

end Go.Proofs.YtdooadomkifbbaaG.PLattice
