-- The walks of some functions, printed by a program for this claim.
import Derived.Test.YtaphfmbloappkaaDoorPAllx0
import Derived.Test.YtaphfmbloappkaaDoorPAllx1
import Derived.Test.YtaphfmbloappkaaDoorPAllx2
import Derived.Test.YtaphfmbloappkaaDoorPAllx3
import Derived.Test.YtaphfmbloappkaaDoorPAllx5
import Derived.Test.YtaphfmbloappkaaDoorPAllx7
namespace Go.Proofs.YtaphfmbloappkaaDoorG.PAll
open Go.RowKit Go.Proofs.YtaphfmbloappkaaDoorW.PrintWords Go.Proofs.YtaphfmbloappkaaDoorW.PrintLast Go.Proofs.YtaphfmbloappkaaDoorW.PrintMore
attribute [local go_sem] max2_int min2_int max_two min_two max_three min_three max_four min_four   -- for this text's walks alone
set_option linter.unusedVariables false
set_option linter.unusedSimpArgs false

attribute [local go_sem high] eqA25
/-! ### timeboundlaw08_CongruenceNarrows: function 4 -/
def timeboundlaw08_CongruenceNarrows.j0 : Nat → Int → Int → Int → Int → Bool → Int → Int → Int → Int → Option (Bool)
  | 0, _, _, _, _, _, _, _, _, _ => none
  | k + 1, x0, x4, x5, x6, x36, x231000, x231001, x232000, x232001 => if x36 = true then ((timeboundlaw08_awake.f k).bind fun t236 => (some t236)) else ((timeboundlaw08_member.f x231000 x231001 x4).bind fun t237 => ((congruence_Of.f t237).bind fun bt238 => ((timeboundlaw08_member.f x232000 x232001 x5).bind fun t240 => ((congruence_Of.f t240).bind fun bt241 => ((congruence_Leq.f k bt238.1 bt238.2 x231000 x231001).bind fun t245 => (if t245 = true then ((congruence_Do.f k (wrap64 (1 + (Int.tmod (wrap64 (x0)) 14))) bt238.1 bt238.2 x232000 x232001).bind fun bt246 => ((congruence_Do.f k (wrap64 (1 + (Int.tmod (wrap64 (x0)) 14))) x231000 x231001 x232000 x232001).bind fun bt248 => ((congruence_Leq.f k bt246.1 bt246.2 bt248.1 bt248.2).bind fun t250 => (if t250 = true then ((congruence_Do.f k (wrap64 (1 + (Int.tmod (wrap64 (x0)) 14))) x231000 x231001 bt241.1 bt241.2).bind fun bt251 => ((congruence_Do.f k (wrap64 (1 + (Int.tmod (wrap64 (x0)) 14))) x231000 x231001 x232000 x232001).bind fun bt253 => ((congruence_Leq.f k bt251.1 bt251.2 bt253.1 bt253.2).bind fun t255 => (if t255 = true then ((congruence_Of.f (wrap64 (x6))).bind fun bt264 => ((congruence_Do.f k 1 x231000 x231001 bt264.1 bt264.2).bind fun bt267 => ((congruence_Do.f k 2 bt267.1 bt267.2 bt264.1 bt264.2).bind fun bt269 => (if (bt269.1 == x231000 && (bt269.2 == x231001)) = true then ((timeboundlaw08_awake.f k).bind fun t271 => (some t271)) else (none))))) else (none))))) else (none))))) else (none)))))))
def timeboundlaw08_CongruenceNarrows.f (k : Nat) (a0 : Int) (a1 : Int) (a2 : Int) (a3_0 : Int) (a3_1 : Int) (a4 : Int) (a5 : Int) (a6 : Int) : Option (Bool) := (timeboundlaw08_of.f a1 a3_0).bind fun bt226 => ((timeboundlaw08_of.f a2 a3_1).bind fun bt228 => ((congruence_None.f).bind fun bt232 => (if (bt226.1 == bt232.1 && (bt226.2 == bt232.2)) = true then (timeboundlaw08_CongruenceNarrows.j0 k a0 a4 a5 a6 true bt226.1 bt226.2 bt228.1 bt228.2) else ((congruence_None.f).bind fun bt234 => (timeboundlaw08_CongruenceNarrows.j0 k a0 a4 a5 a6 (bt228.1 == bt234.1 && (bt228.2 == bt234.2)) bt226.1 bt226.2 bt228.1 bt228.2)))))
theorem timeboundlaw08_CongruenceNarrows.mono_l : ∀ k, (∀ y0 y1 y2 y3 y4 y5 y6 y7 y8, LeO (timeboundlaw08_CongruenceNarrows.j0 k y0 y1 y2 y3 y4 y5 y6 y7 y8) (timeboundlaw08_CongruenceNarrows.j0 (k + 1) y0 y1 y2 y3 y4 y5 y6 y7 y8))
  | 0 => fun _ _ _ _ _ _ _ _ _ r h => by simp [timeboundlaw08_CongruenceNarrows.j0] at h
  | k + 1 => by
    have ih0 := timeboundlaw08_CongruenceNarrows.mono_l k
    · intro y0 y1 y2 y3 y4 y5 y6 y7 y8
      unfold timeboundlaw08_CongruenceNarrows.j0
      repeat' first
      | (with_reducible exact ih0 _ _ _ _ _ _ _ _ _)
      | (with_reducible exact congruence_Do.mono _ _ _ _ _ _)
      | (with_reducible exact congruence_Leq.mono _ _ _ _ _)
      | (with_reducible exact timeboundlaw08_awake.mono _)
      | (with_reducible exact LeO.refl _)
      | (with_reducible exact LeO.none _)
      | (with_reducible refine LeO.ite ?_ ?_)
      | (with_reducible refine LeO.bind ?_ (fun _ => ?_))
      | exact ih0 _ _ _ _ _ _ _ _ _
      | exact congruence_Do.mono _ _ _ _ _ _
      | exact congruence_Leq.mono _ _ _ _ _
      | exact timeboundlaw08_awake.mono _
      | exact LeO.none _
      | refine LeO.ite ?_ ?_
      | refine LeO.bind ?_ (fun _ => ?_)
theorem timeboundlaw08_CongruenceNarrows.mono : ∀ a0 a1 a2 a3 a4 a5 a6 a7 k, LeO (timeboundlaw08_CongruenceNarrows.f k a0 a1 a2 a3 a4 a5 a6 a7) (timeboundlaw08_CongruenceNarrows.f (k + 1) a0 a1 a2 a3 a4 a5 a6 a7) := by
  intro a0 a1 a2 a3 a4 a5 a6 a7 k
  have ih0 := timeboundlaw08_CongruenceNarrows.mono_l k
  unfold timeboundlaw08_CongruenceNarrows.f
  repeat' first
      | (with_reducible exact ih0 _ _ _ _ _ _ _ _ _)
      | (with_reducible exact congruence_Do.mono _ _ _ _ _ _)
      | (with_reducible exact congruence_Leq.mono _ _ _ _ _)
      | (with_reducible exact timeboundlaw08_awake.mono _)
      | (with_reducible exact LeO.refl _)
      | (with_reducible exact LeO.none _)
      | (with_reducible refine LeO.ite ?_ ?_)
      | (with_reducible refine LeO.bind ?_ (fun _ => ?_))
      | exact ih0 _ _ _ _ _ _ _ _ _
      | exact congruence_Do.mono _ _ _ _ _ _
      | exact congruence_Leq.mono _ _ _ _ _
      | exact timeboundlaw08_awake.mono _
      | exact LeO.none _
      | refine LeO.ite ?_ ?_
      | refine LeO.bind ?_ (fun _ => ?_)
def timeboundlaw08_CongruenceNarrows.T1 : Bool × List (List Nat × List Nat) := (true, [([], []), ([], []), ([1], [1]), ([0, 2], [0, 2]), ([], []), ([], []), ([5], [5]), ([4, 6, 3], [4, 6]), ([], []), ([], []), ([8, 3, 7, 0, 1, 2, 3, 8, 9], [3, 8]), ([9, 7, 10, 0, 1, 2, 3, 4, 5, 6, 7, 8, 9, 10], [7, 9])])
def timeboundlaw08_CongruenceNarrows.B1 : List Nat := [0, 0, 2, 7, 0, 0, 32, 127, 0, 0, 1023, 2047]
theorem timeboundlaw08_CongruenceNarrows.tab1 : rtab .any (opsOf Tryd.f4 1) = timeboundlaw08_CongruenceNarrows.T1 := by kernel_rfl
theorem timeboundlaw08_CongruenceNarrows.bits1 : waitsOk timeboundlaw08_CongruenceNarrows.T1.2 timeboundlaw08_CongruenceNarrows.B1 = true := by kernel_rfl
def timeboundlaw08_CongruenceNarrows.T2 : Bool × List (List Nat × List Nat) := (true, [([], []), ([], []), ([0, 1], [0, 1]), ([2, 1], [2]), ([3], [3]), ([3, 3], [3]), ([4, 5, 3], [3, 4, 5]), ([3, 6], [3, 6])])
def timeboundlaw08_CongruenceNarrows.B2 : List Nat := [0, 0, 3, 7, 15, 15, 63, 127]
theorem timeboundlaw08_CongruenceNarrows.tab2 : rtab .any (opsOf Tryd.f4 2) = timeboundlaw08_CongruenceNarrows.T2 := by kernel_rfl
theorem timeboundlaw08_CongruenceNarrows.bits2 : waitsOk timeboundlaw08_CongruenceNarrows.T2.2 timeboundlaw08_CongruenceNarrows.B2 = true := by kernel_rfl
def timeboundlaw08_CongruenceNarrows.T5 : Bool × List (List Nat × List Nat) := (true, [([], []), ([], []), ([0, 1], [0, 1]), ([2, 2], [2]), ([], []), ([], []), ([4, 5, 3], [4, 5]), ([6, 6], [6]), ([], []), ([], []), ([8, 3, 7, 0, 1, 2, 3, 8, 9], [3, 8]), ([9, 7, 10, 0, 1, 2, 3, 4, 5, 6, 7, 8, 9, 10], [7, 9])])
def timeboundlaw08_CongruenceNarrows.B5 : List Nat := [0, 0, 3, 7, 0, 0, 63, 127, 0, 0, 1023, 2047]
theorem timeboundlaw08_CongruenceNarrows.tab5 : rtab .any (opsOf Tryd.f4 5) = timeboundlaw08_CongruenceNarrows.T5 := by kernel_rfl
theorem timeboundlaw08_CongruenceNarrows.bits5 : waitsOk timeboundlaw08_CongruenceNarrows.T5.2 timeboundlaw08_CongruenceNarrows.B5 = true := by kernel_rfl
def timeboundlaw08_CongruenceNarrows.T6 : Bool × List (List Nat × List Nat) := (true, [([], []), ([], []), ([0, 1], [0, 1]), ([2], [2]), ([3, 2], [3]), ([4], [4]), ([4], [4]), ([4], [4]), ([5, 6, 7, 4, 4], [4, 5, 6, 7]), ([4], [4]), ([4], [4]), ([4], [4]), ([9, 10, 11, 8, 4], [4, 9, 10, 11]), ([8, 12, 12, 4], [4, 8, 12]), ([13, 4], [4, 13]), ([4, 14], [4, 14]), ([15, 13], [15]), ([16], [16]), ([16], [16]), ([16], [16]), ([17, 18, 19, 16, 16], [16, 17, 18, 19]), ([16], [16]), ([16], [16]), ([16], [16]), ([21, 22, 23, 20, 16], [16, 21, 22, 23]), ([20, 24, 24, 16], [16, 20, 24]), ([25, 16], [16, 25]), ([16, 26], [16, 26])])
def timeboundlaw08_CongruenceNarrows.B6 : List Nat := [0, 0, 3, 7, 15, 31, 31, 31, 255, 31, 31, 31, 4095, 8191, 16383, 32767, 65535, 131071, 131071, 131071, 1048575, 131071, 131071, 131071, 16777215, 33554431, 67108863, 134217727]
theorem timeboundlaw08_CongruenceNarrows.tab6 : rtab .any (opsOf Tryd.f4 6) = timeboundlaw08_CongruenceNarrows.T6 := by kernel_rfl
theorem timeboundlaw08_CongruenceNarrows.bits6 : waitsOk timeboundlaw08_CongruenceNarrows.T6.2 timeboundlaw08_CongruenceNarrows.B6 = true := by kernel_rfl
def timeboundlaw08_CongruenceNarrows.T9 : Bool × List (List Nat × List Nat) := (true, [([], []), ([], []), ([0, 1], [0, 1]), ([], []), ([2, 3, 2], [2, 3]), ([], []), ([4, 5], [4, 5]), ([6, 4], [6]), ([7, 7], [7]), ([7, 8], [7, 8]), ([9, 8, 0, 1, 2, 3, 4, 5, 6, 7, 8, 9], [9])])
def timeboundlaw08_CongruenceNarrows.B9 : List Nat := [0, 0, 3, 0, 15, 0, 63, 127, 255, 511, 1023]
theorem timeboundlaw08_CongruenceNarrows.tab9 : rtab .any (opsOf Tryd.f4 9) = timeboundlaw08_CongruenceNarrows.T9 := by kernel_rfl
theorem timeboundlaw08_CongruenceNarrows.bits9 : waitsOk timeboundlaw08_CongruenceNarrows.T9.2 timeboundlaw08_CongruenceNarrows.B9 = true := by kernel_rfl
set_option maxHeartbeats 80000000 in
set_option maxRecDepth 100000 in
theorem timeboundlaw08_CongruenceNarrows.calls (k : Nat) (a0 : Int) (a1 : Int) (a2 : Int) (a3_0 : Int) (a3_1 : Int) (a4 : Int) (a5 : Int) (a6 : Int) (r : Bool) (w : World) (h : timeboundlaw08_CongruenceNarrows.f k a0 a1 a2 a3_0 a3_1 a4 a5 a6 = some r) (hT0 : Go.Proofs.YtaphfmbloappkaaDoor.TabOK w) :
    Calls Tryd.prog 4 #[.int .u8 a0, .int .i32 a1, .int .i32 a2, .agg #[.int .u8 a3_0, .int .u8 a3_1], .int .u32 a4, .int .u32 a5, .int .i32 a6] w fun e w' => e = .returned (.bool r) ∧ Below w.heap.size w w' := by
  have hT := Aside0.mk hT0
  clear hT0
  have hu22 := Tryd.underlying22
  have hu25 := Tryd.underlying25
  have HB := Aside0.mk (Below.refl w.heap.size w)
  have H : ((timeboundlaw08_of.f a1 a3_0).bind fun bt226 => ((timeboundlaw08_of.f a2 a3_1).bind fun bt228 => ((congruence_None.f).bind fun bt232 => (if (bt226.1 == bt232.1 && (bt226.2 == bt232.2)) = true then (timeboundlaw08_CongruenceNarrows.j0 k a0 a4 a5 a6 true bt226.1 bt226.2 bt228.1 bt228.2) else ((congruence_None.f).bind fun bt234 => (timeboundlaw08_CongruenceNarrows.j0 k a0 a4 a5 a6 (bt228.1 == bt234.1 && (bt228.2 == bt234.2)) bt226.1 bt226.2 bt228.1 bt228.2)))))) = some r := h
  clear h
  replace H := Option.bind_eq_some_iff.mp H
  obtain ⟨⟨t226, t227⟩, A80, H⟩ := H
  replace H : ((timeboundlaw08_of.f a2 a3_1).bind fun bt228 => ((congruence_None.f).bind fun bt232 => (if (t226 == bt232.1 && (t227 == bt232.2)) = true then (timeboundlaw08_CongruenceNarrows.j0 k a0 a4 a5 a6 true t226 t227 bt228.1 bt228.2) else ((congruence_None.f).bind fun bt234 => (timeboundlaw08_CongruenceNarrows.j0 k a0 a4 a5 a6 (bt228.1 == bt234.1 && (bt228.2 == bt234.2)) t226 t227 bt228.1 bt228.2))))) = some r := H
  have A8 := Aside0.mk A80
  clear A80
  replace H := Option.bind_eq_some_iff.mp H
  obtain ⟨⟨t228, t229⟩, A90, H⟩ := H
  replace H : ((congruence_None.f).bind fun bt232 => (if (t226 == bt232.1 && (t227 == bt232.2)) = true then (timeboundlaw08_CongruenceNarrows.j0 k a0 a4 a5 a6 true t226 t227 t228 t229) else ((congruence_None.f).bind fun bt234 => (timeboundlaw08_CongruenceNarrows.j0 k a0 a4 a5 a6 (t228 == bt234.1 && (t229 == bt234.2)) t226 t227 t228 t229)))) = some r := H
  have A9 := Aside0.mk A90
  clear A90
  have HC10 := Aside0.mk H
  clear H
  go_enter Tryd.func4, Tryd.ntmps4
  try go_wp2_with (first | ((with_reducible refine gate_dst (N := 10) rfl ?_); refine box_event ?hg (N := 10) ?hd (cs := #[.int .u8 a3_0, .int .u8 a3_1]) (t := 22) ?hr ?_; (case hd => rfl); (case hg => rfl); (case hr => first | (go_simp; done) | (go_simp; rfl)); intro gb225 hg w11 hbox hb; have n0_ := Aside0.mk (below_step (by repeat (first | (with_reducible first | exact HB.out | apply below_alloc | apply pw_below_drewN | apply below_drew1) | exact HB.out)) hb); have n1_ := Aside0.mk (hbox); have n2_ := Aside0.mk ((by rw [hg]; exact (below_size (by repeat (first | (with_reducible first | exact HB.out | apply below_alloc | apply pw_below_drewN | apply below_drew1) | exact HB.out))) : w.heap.size ≤ gb225)); have n3_ := Aside0.mk ((by rw [hg]; exact (below_size (by repeat (first | (with_reducible first | exact HB.out | apply below_alloc | apply pw_below_drewN | apply below_drew1) | exact HB.out))) : w.heap.size ≤ gb225)); clear HB; have HB := n0_; have BK225 := n1_; have GW225 := n2_; have GE225 := n3_; clear n0_ n1_ n2_ n3_; clear hb hbox hg))
  have n0_ := Aside0.mk (blk_drew BK225.out)
  have n1_ := Aside0.mk (below_drew1 HB.out)
  clear BK225
  clear HB
  have BK225 := n0_
  have HB := n1_
  clear n0_ n1_
  refine start_ (n := 12) (S := fun w' => True) (ds := []) #[false, false, false, false, false, false, false, false, false, false, false, false] (by kernel_rfl) rfl rfl trivial (fun hHeld => ?_); refine with_tabW timeboundlaw08_CongruenceNarrows.tab1 timeboundlaw08_CongruenceNarrows.bits1 (fun HT_ HW_ => ?_)
  generalize w11.drew = w12 at BK225 HB hHeld ⊢
  refine pure_ (i := 0) (N := some 21) (v := ?_) (a' := ?_) #[true, false, false, false, false, false, false, false, false, false, false, false] rfl rfl (any_of HT_.out (by kernel_rfl)) (fun _ _ _ h => h) (Or.inl ⟨by rfl, ?_⟩) ?_ ?_
  rotate_left
  · intro w'
    go_simp
    with_reducible rfl
  rotate_left
  · simp only [Act.put, List.setIfInBounds_toArray, List.set_cons_zero, List.set_cons_succ, i64_w, i32_w]
    rfl
  refine pure_ (i := 4) (N := some 25) (v := ?_) (a' := ?_) #[true, false, false, false, true, false, false, false, false, false, false, false] rfl rfl (any_of HT_.out (by kernel_rfl)) (fun _ _ _ h => h) (Or.inl ⟨by rfl, ?_⟩) ?_ ?_
  rotate_left
  · intro w'
    go_simp
    with_reducible rfl
  rotate_left
  · simp only [Act.put, List.setIfInBounds_toArray, List.set_cons_zero, List.set_cons_succ, i64_w, i32_w]
    rfl
  refine inv_at [1, 2, 3, 5, 6, 7, 8, 9, 10, 11] (fun a0_ b a w' => ∃ (gb230 : Nat) (gb231 : Nat) (m8_ : Value) (m9_ : Value), a = putSel a0_ b [(1, 22, .pointer (some ⟨gb225, 0, none⟩)), (2, 23, .int .u8 a3_0), (3, 24, .agg #[.int .i64 t226, .int .i64 t227]), (5, 26, .pointer (some ⟨gb225, 1, none⟩)), (6, 27, .int .u8 a3_1), (7, 28, .agg #[.int .i64 t228, .int .i64 t229]), (8, 15, m8_), (9, 16, m9_)] ∧ (w'.heap[gb225]? = some (.cells #[.int .u8 a3_0, .int .u8 a3_1] 22 (0, 0))) ∧ (Below w.heap.size w w') ∧ (b 8 = true → b 9 = true → gb231 ≠ gb230) ∧ (b 8 = true → b 9 = true → gb230 ≠ gb231) ∧ (b 8 = true → b 10 = false → w'.heap[gb230]? = some (.cells #[.int .i64 0, .int .i64 0] 25 (0, 0))) ∧ (b 8 = true → w.heap.size ≤ gb230) ∧ (b 8 = true → w.heap.size ≤ gb230) ∧ (b 8 = true → gb225 ≠ gb230) ∧ (b 8 = true → gb230 ≠ gb225) ∧ (b 9 = true → b 11 = false → w'.heap[gb231]? = some (.cells #[.int .i64 0, .int .i64 0] 25 (0, 0))) ∧ (b 9 = true → w.heap.size ≤ gb231) ∧ (b 9 = true → w.heap.size ≤ gb231) ∧ (b 9 = true → gb225 ≠ gb231) ∧ (b 9 = true → gb231 ≠ gb225) ∧ (b 10 = true → w'.heap[gb230]? = some (.cells #[.int .i64 t226, .int .i64 t227] 25 (0, 0))) ∧ (b 11 = true → w'.heap[gb231]? = some (.cells #[.int .i64 t228, .int .i64 t229] 25 (0, 0))) ∧ (b 8 = true → (m8_ : Value) = .pointer (some ⟨gb230, 0, none⟩)) ∧ (b 9 = true → (m9_ : Value) = .pointer (some ⟨gb231, 0, none⟩))) HT_.out HW_.out (by kernel_rfl) (by kernel_rfl) ?_ ?_ ?_
  · exact ⟨0, 0, .bool false, .bool false, by simp only [putSel, Bool.false_eq_true, if_false], BK225.out, HB.out, fun h_ => absurd h_ (by decide), fun h_ => absurd h_ (by decide), fun h_ => absurd h_ (by decide), fun h_ => absurd h_ (by decide), fun h_ => absurd h_ (by decide), fun h_ => absurd h_ (by decide), fun h_ => absurd h_ (by decide), fun h_ => absurd h_ (by decide), fun h_ => absurd h_ (by decide), fun h_ => absurd h_ (by decide), fun h_ => absurd h_ (by decide), fun h_ => absurd h_ (by decide), fun h_ => absurd h_ (by decide), fun h_ => absurd h_ (by decide), fun h_ => absurd h_ (by decide), fun h_ => absurd h_ (by decide)⟩
  · skip
    clear BK225 HB
    refine steps_cons ?_ ?_
    · rintro b a w' ⟨gb230, gb231, m8_, m9_, ha, Q_BK225, Q_HB, Q_NB231_230, Q_NB230_231, Q_BK230, Q_GW230, Q_GE230, Q_NB225_230, Q_NB230_225, Q_BK231, Q_GW231, Q_GE231, Q_NB225_231, Q_NB231_225, Q_BK230_e10, Q_BK231_e11, Q_X8_, Q_X9_⟩ hb_ hon hoff
      refine ⟨_, rfl, fun K hK => ?_⟩
      have e10 : a.tmps[10]? = some (.pointer (some ⟨gb225, 0, none⟩)) := by rw [ha]; exact (putSel_off rfl).trans rfl
      replace ha := Aside0.mk ha
      have BK225 := Aside0.mk Q_BK225
      have HB := Aside0.mk Q_HB
      refine value_ (w1 := w') (v := .pointer (some ⟨gb225, 0, none⟩)) (by rfl) rfl ?_ ?_
      · go_simp
        (try simp only [i64_w])
        try rfl
      refine hK.out _ _ ⟨gb230, gb231, m8_, m9_, (by rw [ha.out]; exact putSel_upk 0 hb_ rfl rfl rfl), Q_BK225, Q_HB, Q_NB231_230, Q_NB230_231, Q_BK230, Q_GW230, Q_GE230, Q_NB225_230, Q_NB230_225, Q_BK231, Q_GW231, Q_GE231, Q_NB225_231, Q_NB231_225, fun h0_ => absurd ((hoff 10 (by kernel_rfl)).symm.trans h0_) (by decide), fun h0_ => absurd ((hoff 11 (by kernel_rfl)).symm.trans h0_) (by decide), Q_X8_, Q_X9_⟩
    refine steps_cons ?_ ?_
    · rintro b a w' ⟨gb230, gb231, m8_, m9_, ha, Q_BK225, Q_HB, Q_NB231_230, Q_NB230_231, Q_BK230, Q_GW230, Q_GE230, Q_NB225_230, Q_NB230_225, Q_BK231, Q_GW231, Q_GE231, Q_NB225_231, Q_NB231_225, Q_BK230_e10, Q_BK231_e11, Q_X8_, Q_X9_⟩ hb_ hon hoff
      refine ⟨_, rfl, fun K hK => ?_⟩
      have e22 : a.tmps[22]? = some (.pointer (some ⟨gb225, 0, none⟩)) := by rw [ha]; exact putSel_on (e := (1, 22, .pointer (some ⟨gb225, 0, none⟩))) 0 rfl rfl (hon 1 (by kernel_rfl)) rfl
      replace ha := Aside0.mk ha
      have BK225 := Aside0.mk Q_BK225
      have HB := Aside0.mk Q_HB
      have hc0_ : w'.cell? ⟨gb225, 0, none⟩ = some (.int .u8 a3_0) := (blk_cell BK225.out 0).trans rfl
      have hc1_ : w'.cell? ⟨gb225, 1, none⟩ = some (.int .u8 a3_1) := (blk_cell BK225.out 1).trans rfl
      refine value_ (w1 := w') (v := .int .u8 a3_0) (by rfl) rfl ?_ ?_
      · go_simp
        (try simp only [i64_w])
        try rfl
      refine hK.out _ _ ⟨gb230, gb231, m8_, m9_, (by rw [ha.out]; exact putSel_upk 1 hb_ rfl rfl rfl), Q_BK225, Q_HB, Q_NB231_230, Q_NB230_231, Q_BK230, Q_GW230, Q_GE230, Q_NB225_230, Q_NB230_225, Q_BK231, Q_GW231, Q_GE231, Q_NB225_231, Q_NB231_225, fun h0_ => absurd ((hoff 10 (by kernel_rfl)).symm.trans h0_) (by decide), fun h0_ => absurd ((hoff 11 (by kernel_rfl)).symm.trans h0_) (by decide), Q_X8_, Q_X9_⟩
    refine steps_cons ?_ ?_
    · rintro b a w' ⟨gb230, gb231, m8_, m9_, ha, Q_BK225, Q_HB, Q_NB231_230, Q_NB230_231, Q_BK230, Q_GW230, Q_GE230, Q_NB225_230, Q_NB230_225, Q_BK231, Q_GW231, Q_GE231, Q_NB225_231, Q_NB231_225, Q_BK230_e10, Q_BK231_e11, Q_X8_, Q_X9_⟩ hb_ hon hoff
      refine ⟨_, rfl, fun K hK => ?_⟩
      have e21 : a.tmps[21]? = some (.int .i32 a1) := by rw [ha]; exact (putSel_off rfl).trans rfl
      have e23 : a.tmps[23]? = some (.int .u8 a3_0) := by rw [ha]; exact putSel_on (e := (2, 23, .int .u8 a3_0)) 1 rfl rfl (hon 2 (by kernel_rfl)) rfl
      replace ha := Aside0.mk ha
      have BK225 := Aside0.mk Q_BK225
      have HB := Aside0.mk Q_HB
      refine goes_ Tryd.func8 (by kernel_rfl) rfl #[.int .i32 a1, .int .u8 a3_0] (by rfl) rfl rfl (by first | (simp only [List.map_toArray, List.map_cons, List.map_nil, Act.eval, Array.getD_eq_getD_getElem?, Option.getD_some, e21, e23]; done) | (simp only [List.map_toArray, List.map_cons, List.map_nil, Act.eval, Array.getD_eq_getD_getElem?, Option.getD_some, e21, e23]; rfl)) ?_
      with_reducible refine (timeboundlaw08_of.calls a1 a3_0 t226 t227 _ A8.out).mono ?_
      rintro e w13 ⟨rfl, hb⟩
      refine ⟨_, rfl, ?_⟩
      have n0_ := Aside0.mk (blk_below (g := gb225) (o := .cells #[.int .u8 a3_0, .int .u8 a3_1] 22 (0, 0)) (by (with_reducible repeat (first | refine blk_drewN ?_ _ | refine blk_drew ?_ | refine blk_alloc ?_ _)); exact BK225.out) hb)
      have n1_ := Aside0.mk (below_step (by repeat (first | (with_reducible first | exact HB.out | apply below_alloc | apply pw_below_drewN | apply below_drew1 | refine below_set ?_ GE225.out) | exact HB.out)) hb)
      have z_BK230 := fun (h0_ : b 8 = true) (h1_ : b 10 = false) => (show w13.heap[gb230]? = some (.cells #[.int .i64 0, .int .i64 0] 25 (0, 0)) from by first | exact (blk_below (g := gb230) (o := .cells #[.int .i64 0, .int .i64 0] 25 (0, 0)) (by (with_reducible repeat (first | refine blk_drewN ?_ _ | refine blk_drew ?_ | refine blk_alloc ?_ _)); exact (Q_BK230 h0_ h1_)) hb))
      have z_BK231 := fun (h0_ : b 9 = true) (h1_ : b 11 = false) => (show w13.heap[gb231]? = some (.cells #[.int .i64 0, .int .i64 0] 25 (0, 0)) from by first | exact (blk_below (g := gb231) (o := .cells #[.int .i64 0, .int .i64 0] 25 (0, 0)) (by (with_reducible repeat (first | refine blk_drewN ?_ _ | refine blk_drew ?_ | refine blk_alloc ?_ _)); exact (Q_BK231 h0_ h1_)) hb))
      clear BK225
      clear HB
      have BK225 := n0_
      have HB := n1_
      clear n0_ n1_
      (try clear hb)
      (try clear hb2)
      (try clear hk)
      (try clear hi)
      refine hK.out _ _ ⟨gb230, gb231, m8_, m9_, (by rw [ha.out]; exact putSel_upk 2 hb_ rfl rfl rfl), (by (with_reducible repeat (first | refine blk_drewN ?_ _ | refine blk_drew ?_ | refine blk_alloc ?_ _)); exact BK225.out), (by repeat (first | (with_reducible first | exact HB.out | apply below_alloc | apply pw_below_drewN | apply below_drew1 | refine below_set ?_ GE225.out) | exact HB.out)), Q_NB231_230, Q_NB230_231, z_BK230, Q_GW230, Q_GE230, Q_NB225_230, Q_NB230_225, z_BK231, Q_GW231, Q_GE231, Q_NB225_231, Q_NB231_225, fun h0_ => absurd ((hoff 10 (by kernel_rfl)).symm.trans h0_) (by decide), fun h0_ => absurd ((hoff 11 (by kernel_rfl)).symm.trans h0_) (by decide), Q_X8_, Q_X9_⟩
    refine steps_cons ?_ ?_
    · rintro b a w' ⟨gb230, gb231, m8_, m9_, ha, Q_BK225, Q_HB, Q_NB231_230, Q_NB230_231, Q_BK230, Q_GW230, Q_GE230, Q_NB225_230, Q_NB230_225, Q_BK231, Q_GW231, Q_GE231, Q_NB225_231, Q_NB231_225, Q_BK230_e10, Q_BK231_e11, Q_X8_, Q_X9_⟩ hb_ hon hoff
      refine ⟨_, rfl, fun K hK => ?_⟩
      have e10 : a.tmps[10]? = some (.pointer (some ⟨gb225, 0, none⟩)) := by rw [ha]; exact (putSel_off rfl).trans rfl
      replace ha := Aside0.mk ha
      have BK225 := Aside0.mk Q_BK225
      have HB := Aside0.mk Q_HB
      refine value_ (w1 := w') (v := .pointer (some ⟨gb225, 1, none⟩)) (by rfl) rfl ?_ ?_
      · go_simp
        (try simp only [i64_w])
        try rfl
      refine hK.out _ _ ⟨gb230, gb231, m8_, m9_, (by rw [ha.out]; exact putSel_upk 3 hb_ rfl rfl rfl), Q_BK225, Q_HB, Q_NB231_230, Q_NB230_231, Q_BK230, Q_GW230, Q_GE230, Q_NB225_230, Q_NB230_225, Q_BK231, Q_GW231, Q_GE231, Q_NB225_231, Q_NB231_225, fun h0_ => absurd ((hoff 10 (by kernel_rfl)).symm.trans h0_) (by decide), fun h0_ => absurd ((hoff 11 (by kernel_rfl)).symm.trans h0_) (by decide), Q_X8_, Q_X9_⟩
    refine steps_cons ?_ ?_
    · rintro b a w' ⟨gb230, gb231, m8_, m9_, ha, Q_BK225, Q_HB, Q_NB231_230, Q_NB230_231, Q_BK230, Q_GW230, Q_GE230, Q_NB225_230, Q_NB230_225, Q_BK231, Q_GW231, Q_GE231, Q_NB225_231, Q_NB231_225, Q_BK230_e10, Q_BK231_e11, Q_X8_, Q_X9_⟩ hb_ hon hoff
      refine ⟨_, rfl, fun K hK => ?_⟩
      have e26 : a.tmps[26]? = some (.pointer (some ⟨gb225, 1, none⟩)) := by rw [ha]; exact putSel_on (e := (5, 26, .pointer (some ⟨gb225, 1, none⟩))) 3 rfl rfl (hon 5 (by kernel_rfl)) rfl
      replace ha := Aside0.mk ha
      have BK225 := Aside0.mk Q_BK225
      have HB := Aside0.mk Q_HB
      have hc0_ : w'.cell? ⟨gb225, 0, none⟩ = some (.int .u8 a3_0) := (blk_cell BK225.out 0).trans rfl
      have hc1_ : w'.cell? ⟨gb225, 1, none⟩ = some (.int .u8 a3_1) := (blk_cell BK225.out 1).trans rfl
      refine value_ (w1 := w') (v := .int .u8 a3_1) (by rfl) rfl ?_ ?_
      · go_simp
        (try simp only [i64_w])
        try rfl
      refine hK.out _ _ ⟨gb230, gb231, m8_, m9_, (by rw [ha.out]; exact putSel_upk 4 hb_ rfl rfl rfl), Q_BK225, Q_HB, Q_NB231_230, Q_NB230_231, Q_BK230, Q_GW230, Q_GE230, Q_NB225_230, Q_NB230_225, Q_BK231, Q_GW231, Q_GE231, Q_NB225_231, Q_NB231_225, fun h0_ => absurd ((hoff 10 (by kernel_rfl)).symm.trans h0_) (by decide), fun h0_ => absurd ((hoff 11 (by kernel_rfl)).symm.trans h0_) (by decide), Q_X8_, Q_X9_⟩
    refine steps_cons ?_ ?_
    · rintro b a w' ⟨gb230, gb231, m8_, m9_, ha, Q_BK225, Q_HB, Q_NB231_230, Q_NB230_231, Q_BK230, Q_GW230, Q_GE230, Q_NB225_230, Q_NB230_225, Q_BK231, Q_GW231, Q_GE231, Q_NB225_231, Q_NB231_225, Q_BK230_e10, Q_BK231_e11, Q_X8_, Q_X9_⟩ hb_ hon hoff
      refine ⟨_, rfl, fun K hK => ?_⟩
      have e25 : a.tmps[25]? = some (.int .i32 a2) := by rw [ha]; exact (putSel_off rfl).trans rfl
      have e27 : a.tmps[27]? = some (.int .u8 a3_1) := by rw [ha]; exact putSel_on (e := (6, 27, .int .u8 a3_1)) 4 rfl rfl (hon 6 (by kernel_rfl)) rfl
      replace ha := Aside0.mk ha
      have BK225 := Aside0.mk Q_BK225
      have HB := Aside0.mk Q_HB
      refine goes_ Tryd.func8 (by kernel_rfl) rfl #[.int .i32 a2, .int .u8 a3_1] (by rfl) rfl rfl (by first | (simp only [List.map_toArray, List.map_cons, List.map_nil, Act.eval, Array.getD_eq_getD_getElem?, Option.getD_some, e25, e27]; done) | (simp only [List.map_toArray, List.map_cons, List.map_nil, Act.eval, Array.getD_eq_getD_getElem?, Option.getD_some, e25, e27]; rfl)) ?_
      with_reducible refine (timeboundlaw08_of.calls a2 a3_1 t228 t229 _ A9.out).mono ?_
      rintro e w15 ⟨rfl, hb⟩
      refine ⟨_, rfl, ?_⟩
      have n0_ := Aside0.mk (blk_below (g := gb225) (o := .cells #[.int .u8 a3_0, .int .u8 a3_1] 22 (0, 0)) (by (with_reducible repeat (first | refine blk_drewN ?_ _ | refine blk_drew ?_ | refine blk_alloc ?_ _)); exact BK225.out) hb)
      have n1_ := Aside0.mk (below_step (by repeat (first | (with_reducible first | exact HB.out | apply below_alloc | apply pw_below_drewN | apply below_drew1 | refine below_set ?_ GE225.out) | exact HB.out)) hb)
      have z_BK230 := fun (h0_ : b 8 = true) (h1_ : b 10 = false) => (show w15.heap[gb230]? = some (.cells #[.int .i64 0, .int .i64 0] 25 (0, 0)) from by first | exact (blk_below (g := gb230) (o := .cells #[.int .i64 0, .int .i64 0] 25 (0, 0)) (by (with_reducible repeat (first | refine blk_drewN ?_ _ | refine blk_drew ?_ | refine blk_alloc ?_ _)); exact (Q_BK230 h0_ h1_)) hb))
      have z_BK231 := fun (h0_ : b 9 = true) (h1_ : b 11 = false) => (show w15.heap[gb231]? = some (.cells #[.int .i64 0, .int .i64 0] 25 (0, 0)) from by first | exact (blk_below (g := gb231) (o := .cells #[.int .i64 0, .int .i64 0] 25 (0, 0)) (by (with_reducible repeat (first | refine blk_drewN ?_ _ | refine blk_drew ?_ | refine blk_alloc ?_ _)); exact (Q_BK231 h0_ h1_)) hb))
      clear BK225
      clear HB
      have BK225 := n0_
      have HB := n1_
      clear n0_ n1_
      (try clear hb)
      (try clear hb2)
      (try clear hk)
      (try clear hi)
      refine hK.out _ _ ⟨gb230, gb231, m8_, m9_, (by rw [ha.out]; exact putSel_upk 5 hb_ rfl rfl rfl), (by (with_reducible repeat (first | refine blk_drewN ?_ _ | refine blk_drew ?_ | refine blk_alloc ?_ _)); exact BK225.out), (by repeat (first | (with_reducible first | exact HB.out | apply below_alloc | apply pw_below_drewN | apply below_drew1 | refine below_set ?_ GE225.out) | exact HB.out)), Q_NB231_230, Q_NB230_231, z_BK230, Q_GW230, Q_GE230, Q_NB225_230, Q_NB230_225, z_BK231, Q_GW231, Q_GE231, Q_NB225_231, Q_NB231_225, fun h0_ => absurd ((hoff 10 (by kernel_rfl)).symm.trans h0_) (by decide), fun h0_ => absurd ((hoff 11 (by kernel_rfl)).symm.trans h0_) (by decide), Q_X8_, Q_X9_⟩
    refine steps_cons ?_ ?_
    · rintro b a w' ⟨gb230, gb231, m8_, m9_, ha, Q_BK225, Q_HB, Q_NB231_230, Q_NB230_231, Q_BK230, Q_GW230, Q_GE230, Q_NB225_230, Q_NB230_225, Q_BK231, Q_GW231, Q_GE231, Q_NB225_231, Q_NB231_225, Q_BK230_e10, Q_BK231_e11, Q_X8_, Q_X9_⟩ hb_ hon hoff
      refine ⟨_, rfl, fun K hK => ?_⟩
      replace ha := Aside0.mk ha
      have BK225 := Aside0.mk Q_BK225
      have HB := Aside0.mk Q_HB
      refine box_step ?hg (N := 15) ?hd (cs := #[.int .i64 0, .int .i64 0]) (t := 25) ?hr ?_; (case hd => rfl); (case hg => rfl); (case hr => first | (go_simp; done) | (go_simp; rfl))
      intro gb230 hg w13 hbox hb
      have n0_ := Aside0.mk (blk_below (g := gb225) (o := .cells #[.int .u8 a3_0, .int .u8 a3_1] 22 (0, 0)) (by (with_reducible repeat (first | refine blk_drewN ?_ _ | refine blk_drew ?_ | refine blk_alloc ?_ _)); exact BK225.out) hb)
      have n1_ := Aside0.mk (below_step (by repeat (first | (with_reducible first | exact HB.out | apply below_alloc | apply pw_below_drewN | apply below_drew1 | refine below_set ?_ GE225.out) | exact HB.out)) hb)
      have n2_ := Aside0.mk (hbox)
      have n3_ := Aside0.mk ((by rw [hg]; exact (below_size (by repeat (first | (with_reducible first | exact HB.out | apply below_alloc | apply pw_below_drewN | apply below_drew1 | refine below_set ?_ GE225.out) | exact HB.out))) : w.heap.size ≤ gb230))
      have n4_ := Aside0.mk ((by rw [hg]; exact (below_size (by repeat (first | (with_reducible first | exact HB.out | apply below_alloc | apply pw_below_drewN | apply below_drew1 | refine below_set ?_ GE225.out) | exact HB.out))) : w.heap.size ≤ gb230))
      have n5_ := Aside0.mk ((by rw [hg]; exact Nat.ne_of_lt (blk_lt (g := gb225) (o := .cells #[.int .u8 a3_0, .int .u8 a3_1] 22 (0, 0)) (by (with_reducible repeat (first | refine blk_drewN ?_ _ | refine blk_drew ?_ | refine blk_alloc ?_ _)); exact BK225.out)) : gb225 ≠ gb230))
      have n6_ := Aside0.mk ((by rw [hg]; exact Nat.ne_of_gt (blk_lt (g := gb225) (o := .cells #[.int .u8 a3_0, .int .u8 a3_1] 22 (0, 0)) (by (with_reducible repeat (first | refine blk_drewN ?_ _ | refine blk_drew ?_ | refine blk_alloc ?_ _)); exact BK225.out)) : gb230 ≠ gb225))
      have z_NB231_230 := fun (h0_ : up b 8 8 = true) (h1_ : up b 8 9 = true) => (show gb231 ≠ gb230 from ((by rw [hg]; exact Nat.ne_of_lt (blk_lt (g := gb231) (o := .cells #[.int .i64 0, .int .i64 0] 25 (0, 0)) (by (with_reducible repeat (first | refine blk_drewN ?_ _ | refine blk_drew ?_ | refine blk_alloc ?_ _)); exact (Q_BK231 h1_ (hoff 11 (by kernel_rfl))))) : gb231 ≠ gb230)))
      have z_NB230_231 := fun (h0_ : up b 8 8 = true) (h1_ : up b 8 9 = true) => (show gb230 ≠ gb231 from ((by rw [hg]; exact Nat.ne_of_gt (blk_lt (g := gb231) (o := .cells #[.int .i64 0, .int .i64 0] 25 (0, 0)) (by (with_reducible repeat (first | refine blk_drewN ?_ _ | refine blk_drew ?_ | refine blk_alloc ?_ _)); exact (Q_BK231 h1_ (hoff 11 (by kernel_rfl))))) : gb230 ≠ gb231)))
      have z_BK231 := fun (h0_ : b 9 = true) (h1_ : b 11 = false) => (show w13.heap[gb231]? = some (.cells #[.int .i64 0, .int .i64 0] 25 (0, 0)) from by first | exact (blk_below (g := gb231) (o := .cells #[.int .i64 0, .int .i64 0] 25 (0, 0)) (by (with_reducible repeat (first | refine blk_drewN ?_ _ | refine blk_drew ?_ | refine blk_alloc ?_ _)); exact (Q_BK231 h0_ h1_)) hb))
      clear BK225
      clear HB
      have BK225 := n0_
      have HB := n1_
      have BK230 := n2_
      have GW230 := n3_
      have GE230 := n4_
      have NB225_230 := n5_
      have NB230_225 := n6_
      clear n0_ n1_ n2_ n3_ n4_ n5_ n6_
      clear hb hbox hg
      refine hK.out _ _ ⟨gb230, gb231, (.pointer (some ⟨gb230, 0, none⟩)), m9_, (by rw [ha.out]; exact putSel_upk 6 hb_ rfl rfl rfl), (by (with_reducible repeat (first | refine blk_drewN ?_ _ | refine blk_drew ?_ | refine blk_alloc ?_ _)); exact BK225.out), (by repeat (first | (with_reducible first | exact HB.out | apply below_alloc | apply pw_below_drewN | apply below_drew1 | refine below_set ?_ GE225.out | refine below_set ?_ GE230.out) | exact HB.out)), z_NB231_230, z_NB230_231, fun _ _ => (by (with_reducible repeat (first | refine blk_drewN ?_ _ | refine blk_drew ?_ | refine blk_alloc ?_ _)); exact BK230.out), fun _ => GW230.out, fun _ => GE230.out, fun _ => NB225_230.out, fun _ => NB230_225.out, z_BK231, Q_GW231, Q_GE231, Q_NB225_231, Q_NB231_225, fun h0_ => absurd ((hoff 10 (by kernel_rfl)).symm.trans h0_) (by decide), fun h0_ => absurd ((hoff 11 (by kernel_rfl)).symm.trans h0_) (by decide), fun _ => rfl, Q_X9_⟩
    refine steps_cons ?_ ?_
    · rintro b a w' ⟨gb230, gb231, m8_, m9_, ha, Q_BK225, Q_HB, Q_NB231_230, Q_NB230_231, Q_BK230, Q_GW230, Q_GE230, Q_NB225_230, Q_NB230_225, Q_BK231, Q_GW231, Q_GE231, Q_NB225_231, Q_NB231_225, Q_BK230_e10, Q_BK231_e11, Q_X8_, Q_X9_⟩ hb_ hon hoff
      refine ⟨_, rfl, fun K hK => ?_⟩
      replace ha := Aside0.mk ha
      have BK225 := Aside0.mk Q_BK225
      have HB := Aside0.mk Q_HB
      refine box_step ?hg (N := 16) ?hd (cs := #[.int .i64 0, .int .i64 0]) (t := 25) ?hr ?_; (case hd => rfl); (case hg => rfl); (case hr => first | (go_simp; done) | (go_simp; rfl))
      intro gb231 hg w13 hbox hb
      have n0_ := Aside0.mk (blk_below (g := gb225) (o := .cells #[.int .u8 a3_0, .int .u8 a3_1] 22 (0, 0)) (by (with_reducible repeat (first | refine blk_drewN ?_ _ | refine blk_drew ?_ | refine blk_alloc ?_ _)); exact BK225.out) hb)
      have n1_ := Aside0.mk (below_step (by repeat (first | (with_reducible first | exact HB.out | apply below_alloc | apply pw_below_drewN | apply below_drew1 | refine below_set ?_ GE225.out) | exact HB.out)) hb)
      have n2_ := Aside0.mk (hbox)
      have n3_ := Aside0.mk ((by rw [hg]; exact (below_size (by repeat (first | (with_reducible first | exact HB.out | apply below_alloc | apply pw_below_drewN | apply below_drew1 | refine below_set ?_ GE225.out) | exact HB.out))) : w.heap.size ≤ gb231))
      have n4_ := Aside0.mk ((by rw [hg]; exact (below_size (by repeat (first | (with_reducible first | exact HB.out | apply below_alloc | apply pw_below_drewN | apply below_drew1 | refine below_set ?_ GE225.out) | exact HB.out))) : w.heap.size ≤ gb231))
      have n5_ := Aside0.mk ((by rw [hg]; exact Nat.ne_of_lt (blk_lt (g := gb225) (o := .cells #[.int .u8 a3_0, .int .u8 a3_1] 22 (0, 0)) (by (with_reducible repeat (first | refine blk_drewN ?_ _ | refine blk_drew ?_ | refine blk_alloc ?_ _)); exact BK225.out)) : gb225 ≠ gb231))
      have n6_ := Aside0.mk ((by rw [hg]; exact Nat.ne_of_gt (blk_lt (g := gb225) (o := .cells #[.int .u8 a3_0, .int .u8 a3_1] 22 (0, 0)) (by (with_reducible repeat (first | refine blk_drewN ?_ _ | refine blk_drew ?_ | refine blk_alloc ?_ _)); exact BK225.out)) : gb231 ≠ gb225))
      have z_NB231_230 := fun (h0_ : up b 9 8 = true) (h1_ : up b 9 9 = true) => (show gb231 ≠ gb230 from ((by rw [hg]; exact Nat.ne_of_gt (blk_lt (g := gb230) (o := .cells #[.int .i64 0, .int .i64 0] 25 (0, 0)) (by (with_reducible repeat (first | refine blk_drewN ?_ _ | refine blk_drew ?_ | refine blk_alloc ?_ _)); exact (Q_BK230 h0_ (hoff 10 (by kernel_rfl))))) : gb231 ≠ gb230)))
      have z_NB230_231 := fun (h0_ : up b 9 8 = true) (h1_ : up b 9 9 = true) => (show gb230 ≠ gb231 from ((by rw [hg]; exact Nat.ne_of_lt (blk_lt (g := gb230) (o := .cells #[.int .i64 0, .int .i64 0] 25 (0, 0)) (by (with_reducible repeat (first | refine blk_drewN ?_ _ | refine blk_drew ?_ | refine blk_alloc ?_ _)); exact (Q_BK230 h0_ (hoff 10 (by kernel_rfl))))) : gb230 ≠ gb231)))
      have z_BK230 := fun (h0_ : b 8 = true) (h1_ : b 10 = false) => (show w13.heap[gb230]? = some (.cells #[.int .i64 0, .int .i64 0] 25 (0, 0)) from by first | exact (blk_below (g := gb230) (o := .cells #[.int .i64 0, .int .i64 0] 25 (0, 0)) (by (with_reducible repeat (first | refine blk_drewN ?_ _ | refine blk_drew ?_ | refine blk_alloc ?_ _)); exact (Q_BK230 h0_ h1_)) hb))
      clear BK225
      clear HB
      have BK225 := n0_
      have HB := n1_
      have BK231 := n2_
      have GW231 := n3_
      have GE231 := n4_
      have NB225_231 := n5_
      have NB231_225 := n6_
      clear n0_ n1_ n2_ n3_ n4_ n5_ n6_
      clear hb hbox hg
      refine hK.out _ _ ⟨gb230, gb231, m8_, (.pointer (some ⟨gb231, 0, none⟩)), (by rw [ha.out]; exact putSel_upk 7 hb_ rfl rfl rfl), (by (with_reducible repeat (first | refine blk_drewN ?_ _ | refine blk_drew ?_ | refine blk_alloc ?_ _)); exact BK225.out), (by repeat (first | (with_reducible first | exact HB.out | apply below_alloc | apply pw_below_drewN | apply below_drew1 | refine below_set ?_ GE225.out | refine below_set ?_ GE231.out) | exact HB.out)), z_NB231_230, z_NB230_231, z_BK230, Q_GW230, Q_GE230, Q_NB225_230, Q_NB230_225, fun _ _ => (by (with_reducible repeat (first | refine blk_drewN ?_ _ | refine blk_drew ?_ | refine blk_alloc ?_ _)); exact BK231.out), fun _ => GW231.out, fun _ => GE231.out, fun _ => NB225_231.out, fun _ => NB231_225.out, fun h0_ => absurd ((hoff 10 (by kernel_rfl)).symm.trans h0_) (by decide), fun h0_ => absurd ((hoff 11 (by kernel_rfl)).symm.trans h0_) (by decide), Q_X8_, fun _ => rfl⟩
    refine steps_cons ?_ ?_
    · rintro b a w' ⟨gb230, gb231, m8_, m9_, ha, Q_BK225, Q_HB, Q_NB231_230, Q_NB230_231, Q_BK230, Q_GW230, Q_GE230, Q_NB225_230, Q_NB230_225, Q_BK231, Q_GW231, Q_GE231, Q_NB225_231, Q_NB231_225, Q_BK230_e10, Q_BK231_e11, Q_X8_, Q_X9_⟩ hb_ hon hoff
      refine ⟨_, rfl, fun K hK => ?_⟩
      have e15 : a.tmps[15]? = some (m8_) := by rw [ha]; exact putSel_on (e := (8, 15, m8_)) 6 rfl rfl (hon 8 (by kernel_rfl)) rfl
      rw [Q_X8_ (hon 8 (by kernel_rfl))] at e15
      have e24 : a.tmps[24]? = some (.agg #[.int .i64 t226, .int .i64 t227]) := by rw [ha]; exact putSel_on (e := (3, 24, .agg #[.int .i64 t226, .int .i64 t227])) 2 rfl rfl (hon 3 (by kernel_rfl)) rfl
      replace ha := Aside0.mk ha
      have BK225 := Aside0.mk Q_BK225
      have HB := Aside0.mk Q_HB
      have NB231_230 := Aside0.mk (Q_NB231_230 (hon 8 (by kernel_rfl)) (hon 9 (by kernel_rfl)))
      have NB230_231 := Aside0.mk (Q_NB230_231 (hon 8 (by kernel_rfl)) (hon 9 (by kernel_rfl)))
      have BK230 := Aside0.mk (Q_BK230 (hon 8 (by kernel_rfl)) hb_)
      have GW230 := Aside0.mk (Q_GW230 (hon 8 (by kernel_rfl)))
      have GE230 := Aside0.mk (Q_GE230 (hon 8 (by kernel_rfl)))
      have NB225_230 := Aside0.mk (Q_NB225_230 (hon 8 (by kernel_rfl)))
      have NB230_225 := Aside0.mk (Q_NB230_225 (hon 8 (by kernel_rfl)))
      have BK231 := Aside0.mk (Q_BK231 (hon 9 (by kernel_rfl)) (hoff 11 (by kernel_rfl)))
      have GW231 := Aside0.mk (Q_GW231 (hon 9 (by kernel_rfl)))
      have GE231 := Aside0.mk (Q_GE231 (hon 9 (by kernel_rfl)))
      have NB225_231 := Aside0.mk (Q_NB225_231 (hon 9 (by kernel_rfl)))
      have NB231_225 := Aside0.mk (Q_NB231_225 (hon 9 (by kernel_rfl)))
      have hs18 : w'.cell? ⟨gb230, 0, none⟩ = some (.int .i64 0) := (blk_cell BK230.out 0).trans rfl
      have hfs18 := blk_frozen BK230.out 0
      have hns18_0 := NB225_230.out
      have hns18_2 := NB231_230.out
      have hms18_0 := NB230_225.out
      have hms18_2 := NB230_231.out
      have hs19 : w'.cell? ⟨gb230, 1, none⟩ = some (.int .i64 0) := (blk_cell BK230.out 1).trans rfl
      have hfs19 := blk_frozen BK230.out 1
      have hns19_0 := NB225_230.out
      have hns19_2 := NB231_230.out
      have hms19_0 := NB230_225.out
      have hms19_2 := NB230_231.out
      refine skip_ (w1 := ?_) (by rfl) rfl ?_ ?_
      rotate_left
      · go_simp
        rfl
      refine hK.out _ _ ⟨gb230, gb231, m8_, m9_, (by rw [ha.out]; exact putSel_none (v := undef) rfl), (by (with_reducible repeat (first | refine blk_drewN ?_ _ | refine blk_drew ?_ | refine blk_alloc ?_ _)); refine blk_far ?_ NB225_230.out _; (with_reducible repeat (first | refine blk_drewN ?_ _ | refine blk_drew ?_ | refine blk_alloc ?_ _)); refine blk_far ?_ NB225_230.out _; (with_reducible repeat (first | refine blk_drewN ?_ _ | refine blk_drew ?_ | refine blk_alloc ?_ _)); exact BK225.out), (by repeat (first | (with_reducible first | exact HB.out | apply below_alloc | apply pw_below_drewN | apply below_drew1 | refine below_set ?_ GE225.out | refine below_set ?_ GE230.out | refine below_set ?_ GE231.out) | exact HB.out)), fun _ _ => NB231_230.out, fun _ _ => NB230_231.out, fun _ h1_ => absurd ((up_self b 10).symm.trans h1_) (by decide), fun _ => GW230.out, fun _ => GE230.out, fun _ => NB225_230.out, fun _ => NB230_225.out, fun _ _ => (by (with_reducible repeat (first | refine blk_drewN ?_ _ | refine blk_drew ?_ | refine blk_alloc ?_ _)); refine blk_far ?_ NB231_230.out _; (with_reducible repeat (first | refine blk_drewN ?_ _ | refine blk_drew ?_ | refine blk_alloc ?_ _)); refine blk_far ?_ NB231_230.out _; (with_reducible repeat (first | refine blk_drewN ?_ _ | refine blk_drew ?_ | refine blk_alloc ?_ _)); exact BK231.out), fun _ => GW231.out, fun _ => GE231.out, fun _ => NB225_231.out, fun _ => NB231_225.out, fun _ => (by (with_reducible repeat (first | refine blk_drewN ?_ _ | refine blk_drew ?_ | refine blk_alloc ?_ _)); refine blk_put (cs := #[.int .i64 t226, .int .i64 0]) ?_ 1 _ rfl; (with_reducible repeat (first | refine blk_drewN ?_ _ | refine blk_drew ?_ | refine blk_alloc ?_ _)); refine blk_put (cs := #[.int .i64 0, .int .i64 0]) ?_ 0 _ rfl; (with_reducible repeat (first | refine blk_drewN ?_ _ | refine blk_drew ?_ | refine blk_alloc ?_ _)); exact BK230.out), fun h0_ => absurd ((hoff 11 (by kernel_rfl)).symm.trans h0_) (by decide), Q_X8_, Q_X9_⟩
    refine steps_cons ?_ ?_
    · rintro b a w' ⟨gb230, gb231, m8_, m9_, ha, Q_BK225, Q_HB, Q_NB231_230, Q_NB230_231, Q_BK230, Q_GW230, Q_GE230, Q_NB225_230, Q_NB230_225, Q_BK231, Q_GW231, Q_GE231, Q_NB225_231, Q_NB231_225, Q_BK230_e10, Q_BK231_e11, Q_X8_, Q_X9_⟩ hb_ hon hoff
      refine ⟨_, rfl, fun K hK => ?_⟩
      have e16 : a.tmps[16]? = some (m9_) := by rw [ha]; exact putSel_on (e := (9, 16, m9_)) 7 rfl rfl (hon 9 (by kernel_rfl)) rfl
      rw [Q_X9_ (hon 9 (by kernel_rfl))] at e16
      have e28 : a.tmps[28]? = some (.agg #[.int .i64 t228, .int .i64 t229]) := by rw [ha]; exact putSel_on (e := (7, 28, .agg #[.int .i64 t228, .int .i64 t229])) 5 rfl rfl (hon 7 (by kernel_rfl)) rfl
      replace ha := Aside0.mk ha
      have BK225 := Aside0.mk Q_BK225
      have HB := Aside0.mk Q_HB
      have NB231_230 := Aside0.mk (Q_NB231_230 (hon 8 (by kernel_rfl)) (hon 9 (by kernel_rfl)))
      have NB230_231 := Aside0.mk (Q_NB230_231 (hon 8 (by kernel_rfl)) (hon 9 (by kernel_rfl)))
      have GW230 := Aside0.mk (Q_GW230 (hon 8 (by kernel_rfl)))
      have GE230 := Aside0.mk (Q_GE230 (hon 8 (by kernel_rfl)))
      have NB225_230 := Aside0.mk (Q_NB225_230 (hon 8 (by kernel_rfl)))
      have NB230_225 := Aside0.mk (Q_NB230_225 (hon 8 (by kernel_rfl)))
      have BK231 := Aside0.mk (Q_BK231 (hon 9 (by kernel_rfl)) hb_)
      have GW231 := Aside0.mk (Q_GW231 (hon 9 (by kernel_rfl)))
      have GE231 := Aside0.mk (Q_GE231 (hon 9 (by kernel_rfl)))
      have NB225_231 := Aside0.mk (Q_NB225_231 (hon 9 (by kernel_rfl)))
      have NB231_225 := Aside0.mk (Q_NB231_225 (hon 9 (by kernel_rfl)))
      have BK230 := Aside0.mk (Q_BK230_e10 (hon 10 (by kernel_rfl)))
      have hs20 : w'.cell? ⟨gb231, 0, none⟩ = some (.int .i64 0) := (blk_cell BK231.out 0).trans rfl
      have hfs20 := blk_frozen BK231.out 0
      have hns20_0 := NB225_231.out
      have hns20_1 := NB230_231.out
      have hms20_0 := NB231_225.out
      have hms20_1 := NB231_230.out
      have hs21 : w'.cell? ⟨gb231, 1, none⟩ = some (.int .i64 0) := (blk_cell BK231.out 1).trans rfl
      have hfs21 := blk_frozen BK231.out 1
      have hns21_0 := NB225_231.out
      have hns21_1 := NB230_231.out
      have hms21_0 := NB231_225.out
      have hms21_1 := NB231_230.out
      refine skip_ (w1 := ?_) (by rfl) rfl ?_ ?_
      rotate_left
      · go_simp
        rfl
      refine hK.out _ _ ⟨gb230, gb231, m8_, m9_, (by rw [ha.out]; exact putSel_none (v := undef) rfl), (by (with_reducible repeat (first | refine blk_drewN ?_ _ | refine blk_drew ?_ | refine blk_alloc ?_ _)); refine blk_far ?_ NB225_231.out _; (with_reducible repeat (first | refine blk_drewN ?_ _ | refine blk_drew ?_ | refine blk_alloc ?_ _)); refine blk_far ?_ NB225_231.out _; (with_reducible repeat (first | refine blk_drewN ?_ _ | refine blk_drew ?_ | refine blk_alloc ?_ _)); exact BK225.out), (by repeat (first | (with_reducible first | exact HB.out | apply below_alloc | apply pw_below_drewN | apply below_drew1 | refine below_set ?_ GE225.out | refine below_set ?_ GE230.out | refine below_set ?_ GE231.out) | exact HB.out)), fun _ _ => NB231_230.out, fun _ _ => NB230_231.out, fun _ h1_ => absurd ((hon 10 (by kernel_rfl)).symm.trans h1_) (by decide), fun _ => GW230.out, fun _ => GE230.out, fun _ => NB225_230.out, fun _ => NB230_225.out, fun _ h1_ => absurd ((up_self b 11).symm.trans h1_) (by decide), fun _ => GW231.out, fun _ => GE231.out, fun _ => NB225_231.out, fun _ => NB231_225.out, fun _ => (by (with_reducible repeat (first | refine blk_drewN ?_ _ | refine blk_drew ?_ | refine blk_alloc ?_ _)); refine blk_far ?_ NB230_231.out _; (with_reducible repeat (first | refine blk_drewN ?_ _ | refine blk_drew ?_ | refine blk_alloc ?_ _)); refine blk_far ?_ NB230_231.out _; (with_reducible repeat (first | refine blk_drewN ?_ _ | refine blk_drew ?_ | refine blk_alloc ?_ _)); exact BK230.out), fun _ => (by (with_reducible repeat (first | refine blk_drewN ?_ _ | refine blk_drew ?_ | refine blk_alloc ?_ _)); refine blk_put (cs := #[.int .i64 t228, .int .i64 0]) ?_ 1 _ rfl; (with_reducible repeat (first | refine blk_drewN ?_ _ | refine blk_drew ?_ | refine blk_alloc ?_ _)); refine blk_put (cs := #[.int .i64 0, .int .i64 0]) ?_ 0 _ rfl; (with_reducible repeat (first | refine blk_drewN ?_ _ | refine blk_drew ?_ | refine blk_alloc ?_ _)); exact BK231.out), Q_X8_, Q_X9_⟩
    exact steps_nil
  rintro b a w21 hall ⟨gb230, gb231, m8_, m9_, ha, Q_BK225, Q_HB, Q_NB231_230, Q_NB230_231, Q_BK230, Q_GW230, Q_GE230, Q_NB225_230, Q_NB230_225, Q_BK231, Q_GW231, Q_GE231, Q_NB225_231, Q_NB231_225, Q_BK230_e10, Q_BK231_e11, Q_X8_, Q_X9_⟩
  clear BK225 HB
  have hb1_ := hall 1 (by kernel_rfl)
  have hb2_ := hall 2 (by kernel_rfl)
  have hb3_ := hall 3 (by kernel_rfl)
  have hb5_ := hall 5 (by kernel_rfl)
  have hb6_ := hall 6 (by kernel_rfl)
  have hb7_ := hall 7 (by kernel_rfl)
  have hb8_ := hall 8 (by kernel_rfl)
  have hb9_ := hall 9 (by kernel_rfl)
  have hb10_ := hall 10 (by kernel_rfl)
  have hb11_ := hall 11 (by kernel_rfl)
  subst ha
  obtain rfl := Q_X8_ hb8_
  obtain rfl := Q_X9_ hb9_
  simp only [putSel, hb1_, hb2_, hb3_, hb5_, hb6_, hb7_, hb8_, hb9_, hb10_, hb11_, if_true, Act.put, List.setIfInBounds_toArray, List.set_cons_zero, List.set_cons_succ]
  have BK225 := Aside0.mk Q_BK225
  clear Q_BK225
  have HB := Aside0.mk Q_HB
  clear Q_HB
  have NB231_230 := Aside0.mk (Q_NB231_230 hb8_ hb9_)
  clear Q_NB231_230
  have NB230_231 := Aside0.mk (Q_NB230_231 hb8_ hb9_)
  clear Q_NB230_231
  clear Q_BK230
  have GW230 := Aside0.mk (Q_GW230 hb8_)
  clear Q_GW230
  have GE230 := Aside0.mk (Q_GE230 hb8_)
  clear Q_GE230
  have NB225_230 := Aside0.mk (Q_NB225_230 hb8_)
  clear Q_NB225_230
  have NB230_225 := Aside0.mk (Q_NB230_225 hb8_)
  clear Q_NB230_225
  clear Q_BK231
  have GW231 := Aside0.mk (Q_GW231 hb9_)
  clear Q_GW231
  have GE231 := Aside0.mk (Q_GE231 hb9_)
  clear Q_GE231
  have NB225_231 := Aside0.mk (Q_NB225_231 hb9_)
  clear Q_NB225_231
  have NB231_225 := Aside0.mk (Q_NB231_225 hb9_)
  clear Q_NB231_225
  have BK230 := Aside0.mk (Q_BK230_e10 hb10_)
  clear Q_BK230_e10
  have BK231 := Aside0.mk (Q_BK231_e11 hb11_)
  clear Q_BK231_e11
  clear hall hb1_ hb2_ hb3_ hb5_ hb6_ hb7_ hb8_ hb9_ hb10_ hb11_
  go_upto_region 2 with (fail)
  go_cut [36] (fun v36 wc => ∃ (kq : Nat) (x36_9 : Bool), v36 = .bool x36_9 ∧ Aside0 (timeboundlaw08_CongruenceNarrows.j0 kq a0 a4 a5 a6 x36_9 t226 t227 t228 t229 = some r) ∧ Aside0 (kq ≤ k) ∧ Aside0 (wc.heap[gb225]? = some (.cells #[.int .u8 a3_0, .int .u8 a3_1] 22 (0, 0))) ∧ Aside0 (wc.heap[gb230]? = some (.cells #[.int .i64 t226, .int .i64 t227] 25 (0, 0))) ∧ Aside0 (wc.heap[gb231]? = some (.cells #[.int .i64 t228, .int .i64 t229] 25 (0, 0))) ∧ Aside0 (Below w.heap.size w wc))
  case first =>
    have H := HC10.out
    clear HC10
    replace H := Option.bind_eq_some_iff.mp H
    obtain ⟨⟨t232, t233⟩, A220, H⟩ := H
    replace H : (if (t226 == t232 && (t227 == t233)) = true then (timeboundlaw08_CongruenceNarrows.j0 k a0 a4 a5 a6 true t226 t227 t228 t229) else ((congruence_None.f).bind fun bt234 => (timeboundlaw08_CongruenceNarrows.j0 k a0 a4 a5 a6 (t228 == bt234.1 && (t229 == bt234.2)) t226 t227 t228 t229))) = some r := H
    have A22 := Aside0.mk A220
    clear A220
    by_cases c23 : (t226 == t232 && (t227 == t233)) = true
    · rw [if_pos c23] at H
      have c23b0 : (t226 == t232 && (t227 == t233)) = true := c23
      (try (have c23b1 : decide (t226 = t232 && (t227 == t233)) = true := by simpa using c23))
      (try (have c23b2 : (t226 == t232 && (t227 == t233)) = true := by simpa using c23))
      clear c23
      (first | rw [c23b0] | (simp only [i64_w, i32_w]; rw [c23b0]) | skip)
      have H' := Aside0.mk H
      clear H
      try go_wp2
      have n0_ := Aside0.mk (blk_drew BK225.out)
      have n1_ := Aside0.mk (blk_drew BK230.out)
      have n2_ := Aside0.mk (blk_drew BK231.out)
      have n3_ := Aside0.mk (below_drew1 HB.out)
      clear BK225
      clear BK230
      clear BK231
      clear HB
      have BK225 := n0_
      have BK230 := n1_
      have BK231 := n2_
      have HB := n3_
      clear n0_ n1_ n2_ n3_
      refine start_ (n := 8) (S := fun w' => w'.cell? ⟨gb230, 0, none⟩ = some (.int .i64 t226) ∧ w'.cell? ⟨gb230, 1, none⟩ = some (.int .i64 t227)) (ds := []) #[false, false, false, false, false, false, false, false] (by kernel_rfl) rfl rfl ⟨(blk_cell BK230.out 0).trans rfl, (blk_cell BK230.out 1).trans rfl⟩ (fun hHeld => ?_); refine with_tabW timeboundlaw08_CongruenceNarrows.tab2 timeboundlaw08_CongruenceNarrows.bits2 (fun HT_ HW_ => ?_)
      generalize w21.drew = w24 at BK225 BK230 BK231 HB hHeld ⊢
      refine take_ (i := 0) (N := some 29) (v := ?_) (a' := ?_) #[true, false, false, false, false, false, false, false] rfl rfl (take_ofW HT_.out HW_.out (by kernel_rfl)) (fun _ _ _ h => h) (Or.inl ⟨by rfl, ?_⟩) hHeld ?_ ?_
      rotate_left
      · rintro w' ⟨s0, s1⟩
        go_simp
        with_reducible rfl
      rotate_left
      · simp only [Act.put, List.setIfInBounds_toArray, List.set_cons_zero, List.set_cons_succ, i64_w, i32_w]
        rfl
      refine one_ (i := 1) (N := some 30) #[true, true, false, false, false, false, false, false] rfl rfl (one_of HT_.out (by kernel_rfl)) (by decide) (fun K hK => ?_)
      refine goes_ Tryd.func9 (by kernel_rfl) rfl #[] (by rfl) rfl rfl (by (try simp only [List.map_toArray, List.map_cons, List.map_nil]); first | done | rfl | (simp only [List.length_drop, List.length_take]; rfl)) ?_
      with_reducible refine (congruence_None.calls  t232 t233 _ A22.out).mono ?_
      rintro e w25 ⟨rfl, hb⟩
      refine ⟨_, rfl, ?_⟩
      have n0_ := Aside0.mk (blk_below (g := gb225) (o := .cells #[.int .u8 a3_0, .int .u8 a3_1] 22 (0, 0)) (by (with_reducible repeat (first | refine blk_drewN ?_ _ | refine blk_drew ?_ | refine blk_alloc ?_ _)); exact BK225.out) hb)
      have n1_ := Aside0.mk (blk_below (g := gb230) (o := .cells #[.int .i64 t226, .int .i64 t227] 25 (0, 0)) (by (with_reducible repeat (first | refine blk_drewN ?_ _ | refine blk_drew ?_ | refine blk_alloc ?_ _)); exact BK230.out) hb)
      have n2_ := Aside0.mk (blk_below (g := gb231) (o := .cells #[.int .i64 t228, .int .i64 t229] 25 (0, 0)) (by (with_reducible repeat (first | refine blk_drewN ?_ _ | refine blk_drew ?_ | refine blk_alloc ?_ _)); exact BK231.out) hb)
      have n3_ := Aside0.mk (below_step (by repeat (first | (with_reducible first | exact HB.out | apply below_alloc | apply pw_below_drewN | apply below_drew1 | refine below_set ?_ GE225.out | refine below_set ?_ GE230.out | refine below_set ?_ GE231.out) | exact HB.out)) hb)
      clear BK225
      clear BK230
      clear BK231
      clear HB
      have BK225 := n0_
      have BK230 := n1_
      have BK231 := n2_
      have HB := n3_
      clear n0_ n1_ n2_ n3_
      (try clear hb)
      (try clear hb2)
      (try clear hk)
      (try clear hi)
      refine hK.out _ _ ⟨(blk_cell BK230.out 0).trans rfl, (blk_cell BK230.out 1).trans rfl⟩ (fun hHeld => ?_)
      clear hK K
      refine norm_ (a' := ?_) ?_ ?_
      rotate_left
      · show Act.put _ (some 30) _ = _
        simp only [Act.put, List.setIfInBounds_toArray, List.set_cons_zero, List.set_cons_succ, i64_w, i32_w]
        rfl
      refine pure_ (i := 2) (N := some 31) (v := ?_) (a' := ?_) #[true, true, true, false, false, false, false, false] rfl rfl (any_of HT_.out (by kernel_rfl)) (fun _ _ _ h => h) (Or.inl ⟨by rfl, ?_⟩) ?_ ?_
      rotate_left
      · intro w'
        go_simp
        with_reducible rfl
      rotate_left
      · simp only [Act.put, List.setIfInBounds_toArray, List.set_cons_zero, List.set_cons_succ, i64_w, i32_w]
        rfl
      refine pure_ (i := 3) (N := some 32) (v := ?_) (a' := ?_) #[true, true, true, true, false, false, false, false] rfl rfl (any_of HT_.out (by kernel_rfl)) (fun _ _ _ h => h) (Or.inl ⟨by rfl, ?_⟩) ?_ ?_
      rotate_left
      · intro w'
        go_simp
        with_reducible rfl
      rotate_left
      · simp only [Act.put, List.setIfInBounds_toArray, List.set_cons_zero, List.set_cons_succ, i64_w, i32_w]
        rfl
      refine pure_ (i := 4) (N := some 33) (v := undef) (a' := ?_) #[true, true, true, true, true, false, false, false] rfl rfl (any_of HT_.out (by kernel_rfl)) (fun _ _ _ h => h) (Or.inr ⟨by rfl, rfl⟩) ?_ ?_
      rotate_left
      · simp only [Act.put, List.setIfInBounds_toArray, List.set_cons_zero, List.set_cons_succ, i64_w, i32_w]
        rfl
      refine pure_ (i := 5) (N := some 34) (v := undef) (a' := ?_) #[true, true, true, true, true, true, false, false] rfl rfl (any_of HT_.out (by kernel_rfl)) (fun _ _ _ h => h) (Or.inr ⟨by rfl, rfl⟩) ?_ ?_
      rotate_left
      · simp only [Act.put, List.setIfInBounds_toArray, List.set_cons_zero, List.set_cons_succ, i64_w, i32_w]
        rfl
      refine pure_ (i := 6) (N := some 35) (v := undef) (a' := ?_) #[true, true, true, true, true, true, true, false] rfl rfl (any_of HT_.out (by kernel_rfl)) (fun _ _ _ h => h) (Or.inr ⟨by rfl, rfl⟩) ?_ ?_
      rotate_left
      · simp only [Act.put, List.setIfInBounds_toArray, List.set_cons_zero, List.set_cons_succ, i64_w, i32_w]
        rfl
      refine pure_ (i := 7) (N := some 36) (v := ?_) (a' := ?_) #[true, true, true, true, true, true, true, true] rfl rfl (any_of HT_.out (by kernel_rfl)) (fun _ _ _ h => h) (Or.inl ⟨by rfl, ?_⟩) ?_ ?_
      rotate_left
      · intro w'
        go_simp
        with_reducible rfl
      rotate_left
      · simp only [Act.put, List.setIfInBounds_toArray, List.set_cons_zero, List.set_cons_succ, i64_w, i32_w]
        rfl
      refine done_ (done_of HT_.out (by kernel_rfl)) ?_
      try go_wp2
      go_meet
      case rel => exact ⟨_, (true), (by first | rfl | (simp; done) | (simp [*]; done)), H', ⟨by first | omega | exact Nat.le_refl _⟩, ⟨by (with_reducible repeat (first | refine blk_drewN ?_ _ | refine blk_drew ?_ | refine blk_alloc ?_ _)); exact BK225.out⟩, ⟨by (with_reducible repeat (first | refine blk_drewN ?_ _ | refine blk_drew ?_ | refine blk_alloc ?_ _)); exact BK230.out⟩, ⟨by (with_reducible repeat (first | refine blk_drewN ?_ _ | refine blk_drew ?_ | refine blk_alloc ?_ _)); exact BK231.out⟩, ⟨by repeat (first | (with_reducible first | exact HB.out | apply below_alloc | apply pw_below_drewN | apply below_drew1 | refine below_set ?_ GE225.out | refine below_set ?_ GE230.out | refine below_set ?_ GE231.out) | exact HB.out)⟩⟩
    · rw [if_neg c23] at H
      have c23b0 : (t226 == t232 && (t227 == t233)) = false := by simpa using c23
      (try (have c23b1 : decide (t226 = t232 && (t227 == t233)) = false := by simpa using c23))
      (try (have c23b2 : (t226 == t232 && (t227 == t233)) = false := by simpa using c23))
      (try (have c23b3 : ¬ (t226 = t232 && (t227 == t233)) := by simpa using c23))
      clear c23
      (first | rw [c23b0] | (simp only [i64_w, i32_w]; rw [c23b0]) | skip)
      replace H := Option.bind_eq_some_iff.mp H
      obtain ⟨⟨t234, t235⟩, A260, H⟩ := H
      replace H : (timeboundlaw08_CongruenceNarrows.j0 k a0 a4 a5 a6 (t228 == t234 && (t229 == t235)) t226 t227 t228 t229) = some r := H
      have A26 := Aside0.mk A260
      clear A260
      have H' := Aside0.mk H
      clear H
      try go_wp2
      have n0_ := Aside0.mk (blk_drew BK225.out)
      have n1_ := Aside0.mk (blk_drew BK230.out)
      have n2_ := Aside0.mk (blk_drew BK231.out)
      have n3_ := Aside0.mk (below_drew1 HB.out)
      clear BK225
      clear BK230
      clear BK231
      clear HB
      have BK225 := n0_
      have BK230 := n1_
      have BK231 := n2_
      have HB := n3_
      clear n0_ n1_ n2_ n3_
      refine start_ (n := 8) (S := fun w' => w'.cell? ⟨gb230, 0, none⟩ = some (.int .i64 t226) ∧ w'.cell? ⟨gb230, 1, none⟩ = some (.int .i64 t227) ∧ w'.cell? ⟨gb231, 0, none⟩ = some (.int .i64 t228) ∧ w'.cell? ⟨gb231, 1, none⟩ = some (.int .i64 t229)) (ds := []) #[false, false, false, false, false, false, false, false] (by kernel_rfl) rfl rfl ⟨(blk_cell BK230.out 0).trans rfl, (blk_cell BK230.out 1).trans rfl, (blk_cell BK231.out 0).trans rfl, (blk_cell BK231.out 1).trans rfl⟩ (fun hHeld => ?_); refine with_tabW timeboundlaw08_CongruenceNarrows.tab2 timeboundlaw08_CongruenceNarrows.bits2 (fun HT_ HW_ => ?_)
      generalize w21.drew = w27 at BK225 BK230 BK231 HB hHeld ⊢
      refine take_ (i := 0) (N := some 29) (v := ?_) (a' := ?_) #[true, false, false, false, false, false, false, false] rfl rfl (take_ofW HT_.out HW_.out (by kernel_rfl)) (fun _ _ _ h => h) (Or.inl ⟨by rfl, ?_⟩) hHeld ?_ ?_
      rotate_left
      · rintro w' ⟨s0, s1, s2, s3⟩
        go_simp
        with_reducible rfl
      rotate_left
      · simp only [Act.put, List.setIfInBounds_toArray, List.set_cons_zero, List.set_cons_succ, i64_w, i32_w]
        rfl
      refine one_ (i := 1) (N := some 30) #[true, true, false, false, false, false, false, false] rfl rfl (one_of HT_.out (by kernel_rfl)) (by decide) (fun K hK => ?_)
      refine goes_ Tryd.func9 (by kernel_rfl) rfl #[] (by rfl) rfl rfl (by (try simp only [List.map_toArray, List.map_cons, List.map_nil]); first | done | rfl | (simp only [List.length_drop, List.length_take]; rfl)) ?_
      with_reducible refine (congruence_None.calls  t232 t233 _ A22.out).mono ?_
      rintro e w28 ⟨rfl, hb⟩
      refine ⟨_, rfl, ?_⟩
      have n0_ := Aside0.mk (blk_below (g := gb225) (o := .cells #[.int .u8 a3_0, .int .u8 a3_1] 22 (0, 0)) (by (with_reducible repeat (first | refine blk_drewN ?_ _ | refine blk_drew ?_ | refine blk_alloc ?_ _)); exact BK225.out) hb)
      have n1_ := Aside0.mk (blk_below (g := gb230) (o := .cells #[.int .i64 t226, .int .i64 t227] 25 (0, 0)) (by (with_reducible repeat (first | refine blk_drewN ?_ _ | refine blk_drew ?_ | refine blk_alloc ?_ _)); exact BK230.out) hb)
      have n2_ := Aside0.mk (blk_below (g := gb231) (o := .cells #[.int .i64 t228, .int .i64 t229] 25 (0, 0)) (by (with_reducible repeat (first | refine blk_drewN ?_ _ | refine blk_drew ?_ | refine blk_alloc ?_ _)); exact BK231.out) hb)
      have n3_ := Aside0.mk (below_step (by repeat (first | (with_reducible first | exact HB.out | apply below_alloc | apply pw_below_drewN | apply below_drew1 | refine below_set ?_ GE225.out | refine below_set ?_ GE230.out | refine below_set ?_ GE231.out) | exact HB.out)) hb)
      clear BK225
      clear BK230
      clear BK231
      clear HB
      have BK225 := n0_
      have BK230 := n1_
      have BK231 := n2_
      have HB := n3_
      clear n0_ n1_ n2_ n3_
      (try clear hb)
      (try clear hb2)
      (try clear hk)
      (try clear hi)
      refine hK.out _ _ ⟨(blk_cell BK230.out 0).trans rfl, (blk_cell BK230.out 1).trans rfl, (blk_cell BK231.out 0).trans rfl, (blk_cell BK231.out 1).trans rfl⟩ (fun hHeld => ?_)
      clear hK K
      refine norm_ (a' := ?_) ?_ ?_
      rotate_left
      · show Act.put _ (some 30) _ = _
        simp only [Act.put, List.setIfInBounds_toArray, List.set_cons_zero, List.set_cons_succ, i64_w, i32_w]
        rfl
      refine pure_ (i := 2) (N := some 31) (v := ?_) (a' := ?_) #[true, true, true, false, false, false, false, false] rfl rfl (any_of HT_.out (by kernel_rfl)) (fun _ _ _ h => h) (Or.inl ⟨by rfl, ?_⟩) ?_ ?_
      rotate_left
      · intro w'
        go_simp
        with_reducible rfl
      rotate_left
      · simp only [Act.put, List.setIfInBounds_toArray, List.set_cons_zero, List.set_cons_succ, i64_w, i32_w]
        rfl
      refine pure_ (i := 3) (N := some 32) (v := ?_) (a' := ?_) #[true, true, true, true, false, false, false, false] rfl rfl (any_of HT_.out (by kernel_rfl)) (fun _ _ _ h => h) (Or.inl ⟨by rfl, ?_⟩) ?_ ?_
      rotate_left
      · intro w'
        go_simp
        with_reducible rfl
      rotate_left
      · simp only [Act.put, List.setIfInBounds_toArray, List.set_cons_zero, List.set_cons_succ, i64_w, i32_w]
        rfl
      refine take_ (i := 4) (N := some 33) (v := ?_) (a' := ?_) #[true, true, true, true, true, false, false, false] rfl rfl (take_ofW HT_.out HW_.out (by kernel_rfl)) (fun _ _ _ h => h) (Or.inl ⟨by rfl, ?_⟩) hHeld ?_ ?_
      rotate_left
      · rintro w' ⟨s0, s1, s2, s3⟩
        go_simp
        with_reducible rfl
      rotate_left
      · simp only [Act.put, List.setIfInBounds_toArray, List.set_cons_zero, List.set_cons_succ, i64_w, i32_w]
        rfl
      refine one_ (i := 5) (N := some 34) #[true, true, true, true, true, true, false, false] rfl rfl (one_of HT_.out (by kernel_rfl)) (by decide) (fun K hK => ?_)
      refine goes_ Tryd.func9 (by kernel_rfl) rfl #[] (by rfl) rfl rfl (by (try simp only [List.map_toArray, List.map_cons, List.map_nil]); first | done | rfl | (simp only [List.length_drop, List.length_take]; rfl)) ?_
      with_reducible refine (congruence_None.calls  t234 t235 _ A26.out).mono ?_
      rintro e w29 ⟨rfl, hb⟩
      refine ⟨_, rfl, ?_⟩
      have n0_ := Aside0.mk (blk_below (g := gb225) (o := .cells #[.int .u8 a3_0, .int .u8 a3_1] 22 (0, 0)) (by (with_reducible repeat (first | refine blk_drewN ?_ _ | refine blk_drew ?_ | refine blk_alloc ?_ _)); exact BK225.out) hb)
      have n1_ := Aside0.mk (blk_below (g := gb230) (o := .cells #[.int .i64 t226, .int .i64 t227] 25 (0, 0)) (by (with_reducible repeat (first | refine blk_drewN ?_ _ | refine blk_drew ?_ | refine blk_alloc ?_ _)); exact BK230.out) hb)
      have n2_ := Aside0.mk (blk_below (g := gb231) (o := .cells #[.int .i64 t228, .int .i64 t229] 25 (0, 0)) (by (with_reducible repeat (first | refine blk_drewN ?_ _ | refine blk_drew ?_ | refine blk_alloc ?_ _)); exact BK231.out) hb)
      have n3_ := Aside0.mk (below_step (by repeat (first | (with_reducible first | exact HB.out | apply below_alloc | apply pw_below_drewN | apply below_drew1 | refine below_set ?_ GE225.out | refine below_set ?_ GE230.out | refine below_set ?_ GE231.out) | exact HB.out)) hb)
      clear BK225
      clear BK230
      clear BK231
      clear HB
      have BK225 := n0_
      have BK230 := n1_
      have BK231 := n2_
      have HB := n3_
      clear n0_ n1_ n2_ n3_
      (try clear hb)
      (try clear hb2)
      (try clear hk)
      (try clear hi)
      refine hK.out _ _ ⟨(blk_cell BK230.out 0).trans rfl, (blk_cell BK230.out 1).trans rfl, (blk_cell BK231.out 0).trans rfl, (blk_cell BK231.out 1).trans rfl⟩ (fun hHeld => ?_)
      clear hK K
      refine norm_ (a' := ?_) ?_ ?_
      rotate_left
      · show Act.put _ (some 34) _ = _
        simp only [Act.put, List.setIfInBounds_toArray, List.set_cons_zero, List.set_cons_succ, i64_w, i32_w]
        rfl
      refine pure_ (i := 6) (N := some 35) (v := ?_) (a' := ?_) #[true, true, true, true, true, true, true, false] rfl rfl (any_of HT_.out (by kernel_rfl)) (fun _ _ _ h => h) (Or.inl ⟨by rfl, ?_⟩) ?_ ?_
      rotate_left
      · intro w'
        go_simp
        with_reducible rfl
      rotate_left
      · simp only [Act.put, List.setIfInBounds_toArray, List.set_cons_zero, List.set_cons_succ, i64_w, i32_w]
        rfl
      refine pure_ (i := 7) (N := some 36) (v := ?_) (a' := ?_) #[true, true, true, true, true, true, true, true] rfl rfl (any_of HT_.out (by kernel_rfl)) (fun _ _ _ h => h) (Or.inl ⟨by rfl, ?_⟩) ?_ ?_
      rotate_left
      · intro w'
        go_simp
        with_reducible rfl
      rotate_left
      · simp only [Act.put, List.setIfInBounds_toArray, List.set_cons_zero, List.set_cons_succ, i64_w, i32_w]
        rfl
      refine done_ (done_of HT_.out (by kernel_rfl)) ?_
      try go_wp2
      go_meet
      case rel => exact ⟨_, ((t228 == t234 && (t229 == t235))), (by first | rfl | (simp; done) | (simp [*]; done)), H', ⟨by first | omega | exact Nat.le_refl _⟩, ⟨by (with_reducible repeat (first | refine blk_drewN ?_ _ | refine blk_drew ?_ | refine blk_alloc ?_ _)); exact BK225.out⟩, ⟨by (with_reducible repeat (first | refine blk_drewN ?_ _ | refine blk_drew ?_ | refine blk_alloc ?_ _)); exact BK230.out⟩, ⟨by (with_reducible repeat (first | refine blk_drewN ?_ _ | refine blk_drew ?_ | refine blk_alloc ?_ _)); exact BK231.out⟩, ⟨by repeat (first | (with_reducible first | exact HB.out | apply below_alloc | apply pw_below_drewN | apply below_drew1 | refine below_set ?_ GE225.out | refine below_set ?_ GE230.out | refine below_set ?_ GE231.out) | exact HB.out)⟩⟩
  case rest =>
    clear HC10
    try clear c1
    try clear c2
    try clear p2
    try clear c4
    try clear c8
    try clear c9
    try clear c23
    try clear c23b0
    try clear c23b1
    try clear c23b2
    obtain ⟨kq, x36_9, rfl, HA, HJ9, BK225, BK230, BK231, HB⟩ := hcut
    cases kq with
    | zero => exact absurd HA.out (by simp [timeboundlaw08_CongruenceNarrows.j0])
    | succ kj9 =>
      have H := HA.out
      clear HA
      simp only [timeboundlaw08_CongruenceNarrows.j0] at H
      by_cases c30 : x36_9 = true
      · subst c30
        have H1 : ((timeboundlaw08_awake.f kj9).bind fun t236 => (some t236)) = some r := by rw [if_pos rfl] at H; exact H
        clear H
        have H := H1
        clear H1
        replace H := Option.bind_eq_some_iff.mp H
        obtain ⟨t236, A310, H⟩ := H
        replace H : (some t236) = some r := H
        have A31 := Aside0.mk A310
        clear A310
        obtain rfl := Option.some.inj H
        go_wp2_with (first | ((with_reducible refine gate_callee (f := 11) rfl ?_); refine goesL_ (some 37) rfl rfl Tryd.func11 (by kernel_rfl) rfl #[] rfl (by (try simp only [List.map_toArray, List.map_cons, List.map_nil]); first | done | rfl | (simp only [List.length_drop, List.length_take]; rfl)) ?_; (with_reducible refine (timeboundlaw08_awake.calls kj9  t236 _ A31.out (Go.Proofs.YtaphfmbloappkaaDoor.TabOK.below hT.out (by repeat (first | (with_reducible first | exact HB.out | apply below_alloc | apply pw_below_drewN | apply below_drew1 | refine below_set ?_ GE225.out | refine below_set ?_ GE230.out | refine below_set ?_ GE231.out) | exact HB.out)))).mono ?_); rintro e w32 ⟨rfl, hb⟩; refine ⟨_, rfl, ?_⟩; have n0_ := Aside0.mk (blk_below (g := gb225) (o := .cells #[.int .u8 a3_0, .int .u8 a3_1] 22 (0, 0)) (by (with_reducible repeat (first | refine blk_drewN ?_ _ | refine blk_drew ?_ | refine blk_alloc ?_ _)); exact BK225.out) hb); have n1_ := Aside0.mk (blk_below (g := gb230) (o := .cells #[.int .i64 t226, .int .i64 t227] 25 (0, 0)) (by (with_reducible repeat (first | refine blk_drewN ?_ _ | refine blk_drew ?_ | refine blk_alloc ?_ _)); exact BK230.out) hb); have n2_ := Aside0.mk (blk_below (g := gb231) (o := .cells #[.int .i64 t228, .int .i64 t229] 25 (0, 0)) (by (with_reducible repeat (first | refine blk_drewN ?_ _ | refine blk_drew ?_ | refine blk_alloc ?_ _)); exact BK231.out) hb); have n3_ := Aside0.mk (below_step (by repeat (first | (with_reducible first | exact HB.out | apply below_alloc | apply pw_below_drewN | apply below_drew1 | refine below_set ?_ GE225.out | refine below_set ?_ GE230.out | refine below_set ?_ GE231.out) | exact HB.out)) hb); clear BK225; clear BK230; clear BK231; clear HB; have BK225 := n0_; have BK230 := n1_; have BK231 := n2_; have HB := n3_; clear n0_ n1_ n2_ n3_; (try clear hb); (try clear hb2); (try clear hk); (try clear hi)))
        go_ret
        exact ⟨by first | rfl | (simp [errW_none, errW_some] <;> rfl) | (simp [*, errW_none, errW_some] <;> rfl), by repeat (first | (with_reducible first | exact HB.out | apply below_alloc | apply pw_below_drewN | apply below_drew1 | refine below_set ?_ GE225.out | refine below_set ?_ GE230.out | refine below_set ?_ GE231.out) | exact HB.out)⟩
      · replace c30 := Bool.eq_false_iff.mpr c30
        subst c30
        have H1 : ((timeboundlaw08_member.f t226 t227 a4).bind fun t237 => ((congruence_Of.f t237).bind fun bt238 => ((timeboundlaw08_member.f t228 t229 a5).bind fun t240 => ((congruence_Of.f t240).bind fun bt241 => ((congruence_Leq.f kj9 bt238.1 bt238.2 t226 t227).bind fun t245 => (if t245 = true then ((congruence_Do.f kj9 (wrap64 (1 + (Int.tmod (wrap64 (a0)) 14))) bt238.1 bt238.2 t228 t229).bind fun bt246 => ((congruence_Do.f kj9 (wrap64 (1 + (Int.tmod (wrap64 (a0)) 14))) t226 t227 t228 t229).bind fun bt248 => ((congruence_Leq.f kj9 bt246.1 bt246.2 bt248.1 bt248.2).bind fun t250 => (if t250 = true then ((congruence_Do.f kj9 (wrap64 (1 + (Int.tmod (wrap64 (a0)) 14))) t226 t227 bt241.1 bt241.2).bind fun bt251 => ((congruence_Do.f kj9 (wrap64 (1 + (Int.tmod (wrap64 (a0)) 14))) t226 t227 t228 t229).bind fun bt253 => ((congruence_Leq.f kj9 bt251.1 bt251.2 bt253.1 bt253.2).bind fun t255 => (if t255 = true then ((congruence_Of.f (wrap64 (a6))).bind fun bt264 => ((congruence_Do.f kj9 1 t226 t227 bt264.1 bt264.2).bind fun bt267 => ((congruence_Do.f kj9 2 bt267.1 bt267.2 bt264.1 bt264.2).bind fun bt269 => (if (bt269.1 == t226 && (bt269.2 == t227)) = true then ((timeboundlaw08_awake.f kj9).bind fun t271 => (some t271)) else (none))))) else (none))))) else (none))))) else (none))))))) = some r := by rw [if_neg (show ¬ (false = true) by decide)] at H; exact H
        clear H
        have H := H1
        clear H1
        replace H := Option.bind_eq_some_iff.mp H
        obtain ⟨t237, A330, H⟩ := H
        replace H : ((congruence_Of.f t237).bind fun bt238 => ((timeboundlaw08_member.f t228 t229 a5).bind fun t240 => ((congruence_Of.f t240).bind fun bt241 => ((congruence_Leq.f kj9 bt238.1 bt238.2 t226 t227).bind fun t245 => (if t245 = true then ((congruence_Do.f kj9 (wrap64 (1 + (Int.tmod (wrap64 (a0)) 14))) bt238.1 bt238.2 t228 t229).bind fun bt246 => ((congruence_Do.f kj9 (wrap64 (1 + (Int.tmod (wrap64 (a0)) 14))) t226 t227 t228 t229).bind fun bt248 => ((congruence_Leq.f kj9 bt246.1 bt246.2 bt248.1 bt248.2).bind fun t250 => (if t250 = true then ((congruence_Do.f kj9 (wrap64 (1 + (Int.tmod (wrap64 (a0)) 14))) t226 t227 bt241.1 bt241.2).bind fun bt251 => ((congruence_Do.f kj9 (wrap64 (1 + (Int.tmod (wrap64 (a0)) 14))) t226 t227 t228 t229).bind fun bt253 => ((congruence_Leq.f kj9 bt251.1 bt251.2 bt253.1 bt253.2).bind fun t255 => (if t255 = true then ((congruence_Of.f (wrap64 (a6))).bind fun bt264 => ((congruence_Do.f kj9 1 t226 t227 bt264.1 bt264.2).bind fun bt267 => ((congruence_Do.f kj9 2 bt267.1 bt267.2 bt264.1 bt264.2).bind fun bt269 => (if (bt269.1 == t226 && (bt269.2 == t227)) = true then ((timeboundlaw08_awake.f kj9).bind fun t271 => (some t271)) else (none))))) else (none))))) else (none))))) else (none)))))) = some r := H
        have A33 := Aside0.mk A330
        clear A330
        replace H := Option.bind_eq_some_iff.mp H
        obtain ⟨⟨t238, t239⟩, A340, H⟩ := H
        replace H : ((timeboundlaw08_member.f t228 t229 a5).bind fun t240 => ((congruence_Of.f t240).bind fun bt241 => ((congruence_Leq.f kj9 t238 t239 t226 t227).bind fun t245 => (if t245 = true then ((congruence_Do.f kj9 (wrap64 (1 + (Int.tmod (wrap64 (a0)) 14))) t238 t239 t228 t229).bind fun bt246 => ((congruence_Do.f kj9 (wrap64 (1 + (Int.tmod (wrap64 (a0)) 14))) t226 t227 t228 t229).bind fun bt248 => ((congruence_Leq.f kj9 bt246.1 bt246.2 bt248.1 bt248.2).bind fun t250 => (if t250 = true then ((congruence_Do.f kj9 (wrap64 (1 + (Int.tmod (wrap64 (a0)) 14))) t226 t227 bt241.1 bt241.2).bind fun bt251 => ((congruence_Do.f kj9 (wrap64 (1 + (Int.tmod (wrap64 (a0)) 14))) t226 t227 t228 t229).bind fun bt253 => ((congruence_Leq.f kj9 bt251.1 bt251.2 bt253.1 bt253.2).bind fun t255 => (if t255 = true then ((congruence_Of.f (wrap64 (a6))).bind fun bt264 => ((congruence_Do.f kj9 1 t226 t227 bt264.1 bt264.2).bind fun bt267 => ((congruence_Do.f kj9 2 bt267.1 bt267.2 bt264.1 bt264.2).bind fun bt269 => (if (bt269.1 == t226 && (bt269.2 == t227)) = true then ((timeboundlaw08_awake.f kj9).bind fun t271 => (some t271)) else (none))))) else (none))))) else (none))))) else (none))))) = some r := H
        have A34 := Aside0.mk A340
        clear A340
        replace H := Option.bind_eq_some_iff.mp H
        obtain ⟨t240, A350, H⟩ := H
        replace H : ((congruence_Of.f t240).bind fun bt241 => ((congruence_Leq.f kj9 t238 t239 t226 t227).bind fun t245 => (if t245 = true then ((congruence_Do.f kj9 (wrap64 (1 + (Int.tmod (wrap64 (a0)) 14))) t238 t239 t228 t229).bind fun bt246 => ((congruence_Do.f kj9 (wrap64 (1 + (Int.tmod (wrap64 (a0)) 14))) t226 t227 t228 t229).bind fun bt248 => ((congruence_Leq.f kj9 bt246.1 bt246.2 bt248.1 bt248.2).bind fun t250 => (if t250 = true then ((congruence_Do.f kj9 (wrap64 (1 + (Int.tmod (wrap64 (a0)) 14))) t226 t227 bt241.1 bt241.2).bind fun bt251 => ((congruence_Do.f kj9 (wrap64 (1 + (Int.tmod (wrap64 (a0)) 14))) t226 t227 t228 t229).bind fun bt253 => ((congruence_Leq.f kj9 bt251.1 bt251.2 bt253.1 bt253.2).bind fun t255 => (if t255 = true then ((congruence_Of.f (wrap64 (a6))).bind fun bt264 => ((congruence_Do.f kj9 1 t226 t227 bt264.1 bt264.2).bind fun bt267 => ((congruence_Do.f kj9 2 bt267.1 bt267.2 bt264.1 bt264.2).bind fun bt269 => (if (bt269.1 == t226 && (bt269.2 == t227)) = true then ((timeboundlaw08_awake.f kj9).bind fun t271 => (some t271)) else (none))))) else (none))))) else (none))))) else (none)))) = some r := H
        have A35 := Aside0.mk A350
        clear A350
        replace H := Option.bind_eq_some_iff.mp H
        obtain ⟨⟨t241, t242⟩, A360, H⟩ := H
        replace H : ((congruence_Leq.f kj9 t238 t239 t226 t227).bind fun t245 => (if t245 = true then ((congruence_Do.f kj9 (wrap64 (1 + (Int.tmod (wrap64 (a0)) 14))) t238 t239 t228 t229).bind fun bt246 => ((congruence_Do.f kj9 (wrap64 (1 + (Int.tmod (wrap64 (a0)) 14))) t226 t227 t228 t229).bind fun bt248 => ((congruence_Leq.f kj9 bt246.1 bt246.2 bt248.1 bt248.2).bind fun t250 => (if t250 = true then ((congruence_Do.f kj9 (wrap64 (1 + (Int.tmod (wrap64 (a0)) 14))) t226 t227 t241 t242).bind fun bt251 => ((congruence_Do.f kj9 (wrap64 (1 + (Int.tmod (wrap64 (a0)) 14))) t226 t227 t228 t229).bind fun bt253 => ((congruence_Leq.f kj9 bt251.1 bt251.2 bt253.1 bt253.2).bind fun t255 => (if t255 = true then ((congruence_Of.f (wrap64 (a6))).bind fun bt264 => ((congruence_Do.f kj9 1 t226 t227 bt264.1 bt264.2).bind fun bt267 => ((congruence_Do.f kj9 2 bt267.1 bt267.2 bt264.1 bt264.2).bind fun bt269 => (if (bt269.1 == t226 && (bt269.2 == t227)) = true then ((timeboundlaw08_awake.f kj9).bind fun t271 => (some t271)) else (none))))) else (none))))) else (none))))) else (none))) = some r := H
        have A36 := Aside0.mk A360
        clear A360
        replace H := Option.bind_eq_some_iff.mp H
        obtain ⟨t245, A370, H⟩ := H
        replace H : (if t245 = true then ((congruence_Do.f kj9 (wrap64 (1 + (Int.tmod (wrap64 (a0)) 14))) t238 t239 t228 t229).bind fun bt246 => ((congruence_Do.f kj9 (wrap64 (1 + (Int.tmod (wrap64 (a0)) 14))) t226 t227 t228 t229).bind fun bt248 => ((congruence_Leq.f kj9 bt246.1 bt246.2 bt248.1 bt248.2).bind fun t250 => (if t250 = true then ((congruence_Do.f kj9 (wrap64 (1 + (Int.tmod (wrap64 (a0)) 14))) t226 t227 t241 t242).bind fun bt251 => ((congruence_Do.f kj9 (wrap64 (1 + (Int.tmod (wrap64 (a0)) 14))) t226 t227 t228 t229).bind fun bt253 => ((congruence_Leq.f kj9 bt251.1 bt251.2 bt253.1 bt253.2).bind fun t255 => (if t255 = true then ((congruence_Of.f (wrap64 (a6))).bind fun bt264 => ((congruence_Do.f kj9 1 t226 t227 bt264.1 bt264.2).bind fun bt267 => ((congruence_Do.f kj9 2 bt267.1 bt267.2 bt264.1 bt264.2).bind fun bt269 => (if (bt269.1 == t226 && (bt269.2 == t227)) = true then ((timeboundlaw08_awake.f kj9).bind fun t271 => (some t271)) else (none))))) else (none))))) else (none))))) else (none)) = some r := H
        have A37 := Aside0.mk A370
        clear A370
        by_cases c38 : t245 = true
        · subst c38
          have H1 : ((congruence_Do.f kj9 (wrap64 (1 + (Int.tmod (wrap64 (a0)) 14))) t238 t239 t228 t229).bind fun bt246 => ((congruence_Do.f kj9 (wrap64 (1 + (Int.tmod (wrap64 (a0)) 14))) t226 t227 t228 t229).bind fun bt248 => ((congruence_Leq.f kj9 bt246.1 bt246.2 bt248.1 bt248.2).bind fun t250 => (if t250 = true then ((congruence_Do.f kj9 (wrap64 (1 + (Int.tmod (wrap64 (a0)) 14))) t226 t227 t241 t242).bind fun bt251 => ((congruence_Do.f kj9 (wrap64 (1 + (Int.tmod (wrap64 (a0)) 14))) t226 t227 t228 t229).bind fun bt253 => ((congruence_Leq.f kj9 bt251.1 bt251.2 bt253.1 bt253.2).bind fun t255 => (if t255 = true then ((congruence_Of.f (wrap64 (a6))).bind fun bt264 => ((congruence_Do.f kj9 1 t226 t227 bt264.1 bt264.2).bind fun bt267 => ((congruence_Do.f kj9 2 bt267.1 bt267.2 bt264.1 bt264.2).bind fun bt269 => (if (bt269.1 == t226 && (bt269.2 == t227)) = true then ((timeboundlaw08_awake.f kj9).bind fun t271 => (some t271)) else (none))))) else (none))))) else (none))))) = some r := by rw [if_pos rfl] at H; exact H
          clear H
          have H := H1
          clear H1
          replace H := Option.bind_eq_some_iff.mp H
          obtain ⟨⟨t246, t247⟩, A390, H⟩ := H
          replace H : ((congruence_Do.f kj9 (wrap64 (1 + (Int.tmod (wrap64 (a0)) 14))) t226 t227 t228 t229).bind fun bt248 => ((congruence_Leq.f kj9 t246 t247 bt248.1 bt248.2).bind fun t250 => (if t250 = true then ((congruence_Do.f kj9 (wrap64 (1 + (Int.tmod (wrap64 (a0)) 14))) t226 t227 t241 t242).bind fun bt251 => ((congruence_Do.f kj9 (wrap64 (1 + (Int.tmod (wrap64 (a0)) 14))) t226 t227 t228 t229).bind fun bt253 => ((congruence_Leq.f kj9 bt251.1 bt251.2 bt253.1 bt253.2).bind fun t255 => (if t255 = true then ((congruence_Of.f (wrap64 (a6))).bind fun bt264 => ((congruence_Do.f kj9 1 t226 t227 bt264.1 bt264.2).bind fun bt267 => ((congruence_Do.f kj9 2 bt267.1 bt267.2 bt264.1 bt264.2).bind fun bt269 => (if (bt269.1 == t226 && (bt269.2 == t227)) = true then ((timeboundlaw08_awake.f kj9).bind fun t271 => (some t271)) else (none))))) else (none))))) else (none)))) = some r := H
          have A39 := Aside0.mk A390
          clear A390
          replace H := Option.bind_eq_some_iff.mp H
          obtain ⟨⟨t248, t249⟩, A400, H⟩ := H
          replace H : ((congruence_Leq.f kj9 t246 t247 t248 t249).bind fun t250 => (if t250 = true then ((congruence_Do.f kj9 (wrap64 (1 + (Int.tmod (wrap64 (a0)) 14))) t226 t227 t241 t242).bind fun bt251 => ((congruence_Do.f kj9 (wrap64 (1 + (Int.tmod (wrap64 (a0)) 14))) t226 t227 t228 t229).bind fun bt253 => ((congruence_Leq.f kj9 bt251.1 bt251.2 bt253.1 bt253.2).bind fun t255 => (if t255 = true then ((congruence_Of.f (wrap64 (a6))).bind fun bt264 => ((congruence_Do.f kj9 1 t226 t227 bt264.1 bt264.2).bind fun bt267 => ((congruence_Do.f kj9 2 bt267.1 bt267.2 bt264.1 bt264.2).bind fun bt269 => (if (bt269.1 == t226 && (bt269.2 == t227)) = true then ((timeboundlaw08_awake.f kj9).bind fun t271 => (some t271)) else (none))))) else (none))))) else (none))) = some r := H
          have A40 := Aside0.mk A400
          clear A400
          replace H := Option.bind_eq_some_iff.mp H
          obtain ⟨t250, A410, H⟩ := H
          replace H : (if t250 = true then ((congruence_Do.f kj9 (wrap64 (1 + (Int.tmod (wrap64 (a0)) 14))) t226 t227 t241 t242).bind fun bt251 => ((congruence_Do.f kj9 (wrap64 (1 + (Int.tmod (wrap64 (a0)) 14))) t226 t227 t228 t229).bind fun bt253 => ((congruence_Leq.f kj9 bt251.1 bt251.2 bt253.1 bt253.2).bind fun t255 => (if t255 = true then ((congruence_Of.f (wrap64 (a6))).bind fun bt264 => ((congruence_Do.f kj9 1 t226 t227 bt264.1 bt264.2).bind fun bt267 => ((congruence_Do.f kj9 2 bt267.1 bt267.2 bt264.1 bt264.2).bind fun bt269 => (if (bt269.1 == t226 && (bt269.2 == t227)) = true then ((timeboundlaw08_awake.f kj9).bind fun t271 => (some t271)) else (none))))) else (none))))) else (none)) = some r := H
          have A41 := Aside0.mk A410
          clear A410
          by_cases c42 : t250 = true
          · subst c42
            have H1 : ((congruence_Do.f kj9 (wrap64 (1 + (Int.tmod (wrap64 (a0)) 14))) t226 t227 t241 t242).bind fun bt251 => ((congruence_Do.f kj9 (wrap64 (1 + (Int.tmod (wrap64 (a0)) 14))) t226 t227 t228 t229).bind fun bt253 => ((congruence_Leq.f kj9 bt251.1 bt251.2 bt253.1 bt253.2).bind fun t255 => (if t255 = true then ((congruence_Of.f (wrap64 (a6))).bind fun bt264 => ((congruence_Do.f kj9 1 t226 t227 bt264.1 bt264.2).bind fun bt267 => ((congruence_Do.f kj9 2 bt267.1 bt267.2 bt264.1 bt264.2).bind fun bt269 => (if (bt269.1 == t226 && (bt269.2 == t227)) = true then ((timeboundlaw08_awake.f kj9).bind fun t271 => (some t271)) else (none))))) else (none))))) = some r := by rw [if_pos rfl] at H; exact H
            clear H
            have H := H1
            clear H1
            replace H := Option.bind_eq_some_iff.mp H
            obtain ⟨⟨t251, t252⟩, A430, H⟩ := H
            replace H : ((congruence_Do.f kj9 (wrap64 (1 + (Int.tmod (wrap64 (a0)) 14))) t226 t227 t228 t229).bind fun bt253 => ((congruence_Leq.f kj9 t251 t252 bt253.1 bt253.2).bind fun t255 => (if t255 = true then ((congruence_Of.f (wrap64 (a6))).bind fun bt264 => ((congruence_Do.f kj9 1 t226 t227 bt264.1 bt264.2).bind fun bt267 => ((congruence_Do.f kj9 2 bt267.1 bt267.2 bt264.1 bt264.2).bind fun bt269 => (if (bt269.1 == t226 && (bt269.2 == t227)) = true then ((timeboundlaw08_awake.f kj9).bind fun t271 => (some t271)) else (none))))) else (none)))) = some r := H
            have A43 := Aside0.mk A430
            clear A430
            replace H := Option.bind_eq_some_iff.mp H
            obtain ⟨⟨t253, t254⟩, A440, H⟩ := H
            replace H : ((congruence_Leq.f kj9 t251 t252 t253 t254).bind fun t255 => (if t255 = true then ((congruence_Of.f (wrap64 (a6))).bind fun bt264 => ((congruence_Do.f kj9 1 t226 t227 bt264.1 bt264.2).bind fun bt267 => ((congruence_Do.f kj9 2 bt267.1 bt267.2 bt264.1 bt264.2).bind fun bt269 => (if (bt269.1 == t226 && (bt269.2 == t227)) = true then ((timeboundlaw08_awake.f kj9).bind fun t271 => (some t271)) else (none))))) else (none))) = some r := H
            have A44 := Aside0.mk A440
            clear A440
            replace H := Option.bind_eq_some_iff.mp H
            obtain ⟨t255, A450, H⟩ := H
            replace H : (if t255 = true then ((congruence_Of.f (wrap64 (a6))).bind fun bt264 => ((congruence_Do.f kj9 1 t226 t227 bt264.1 bt264.2).bind fun bt267 => ((congruence_Do.f kj9 2 bt267.1 bt267.2 bt264.1 bt264.2).bind fun bt269 => (if (bt269.1 == t226 && (bt269.2 == t227)) = true then ((timeboundlaw08_awake.f kj9).bind fun t271 => (some t271)) else (none))))) else (none)) = some r := H
            have A45 := Aside0.mk A450
            clear A450
            by_cases c46 : t255 = true
            · subst c46
              have H1 : ((congruence_Of.f (wrap64 (a6))).bind fun bt264 => ((congruence_Do.f kj9 1 t226 t227 bt264.1 bt264.2).bind fun bt267 => ((congruence_Do.f kj9 2 bt267.1 bt267.2 bt264.1 bt264.2).bind fun bt269 => (if (bt269.1 == t226 && (bt269.2 == t227)) = true then ((timeboundlaw08_awake.f kj9).bind fun t271 => (some t271)) else (none))))) = some r := by rw [if_pos rfl] at H; exact H
              clear H
              have H := H1
              clear H1
              replace H := Option.bind_eq_some_iff.mp H
              obtain ⟨⟨t264, t265⟩, A470, H⟩ := H
              replace H : ((congruence_Do.f kj9 1 t226 t227 t264 t265).bind fun bt267 => ((congruence_Do.f kj9 2 bt267.1 bt267.2 t264 t265).bind fun bt269 => (if (bt269.1 == t226 && (bt269.2 == t227)) = true then ((timeboundlaw08_awake.f kj9).bind fun t271 => (some t271)) else (none)))) = some r := H
              have A47 := Aside0.mk A470
              clear A470
              replace H := Option.bind_eq_some_iff.mp H
              obtain ⟨⟨t267, t268⟩, A480, H⟩ := H
              replace H : ((congruence_Do.f kj9 2 t267 t268 t264 t265).bind fun bt269 => (if (bt269.1 == t226 && (bt269.2 == t227)) = true then ((timeboundlaw08_awake.f kj9).bind fun t271 => (some t271)) else (none))) = some r := H
              have A48 := Aside0.mk A480
              clear A480
              replace H := Option.bind_eq_some_iff.mp H
              obtain ⟨⟨t269, t270⟩, A490, H⟩ := H
              replace H : (if (t269 == t226 && (t270 == t227)) = true then ((timeboundlaw08_awake.f kj9).bind fun t271 => (some t271)) else (none)) = some r := H
              have A49 := Aside0.mk A490
              clear A490
              by_cases c50 : (t269 == t226 && (t270 == t227)) = true
              · rw [if_pos c50] at H
                have c50b0 : (t269 == t226 && (t270 == t227)) = true := c50
                (try (have c50b1 : decide (t269 = t226 && (t270 == t227)) = true := by simpa using c50))
                (try (have c50b2 : (t269 == t226 && (t270 == t227)) = true := by simpa using c50))
                clear c50
                replace H := Option.bind_eq_some_iff.mp H
                obtain ⟨t271, A510, H⟩ := H
                replace H : (some t271) = some r := H
                have A51 := Aside0.mk A510
                clear A510
                obtain rfl := Option.some.inj H
                try go_wp2
                have n0_ := Aside0.mk (blk_drew BK225.out)
                have n1_ := Aside0.mk (blk_drew BK230.out)
                have n2_ := Aside0.mk (blk_drew BK231.out)
                have n3_ := Aside0.mk (below_drew1 HB.out)
                clear BK225
                clear BK230
                clear BK231
                clear HB
                have BK225 := n0_
                have BK230 := n1_
                have BK231 := n2_
                have HB := n3_
                clear n0_ n1_ n2_ n3_
                refine start_ (n := 12) (S := fun w' => True) (ds := []) #[false, false, false, false, false, false, false, false, false, false, false, false] (by kernel_rfl) rfl rfl trivial (fun hHeld => ?_); refine with_tabW timeboundlaw08_CongruenceNarrows.tab5 timeboundlaw08_CongruenceNarrows.bits5 (fun HT_ HW_ => ?_)
                generalize wc.drew = w52 at BK225 BK230 BK231 HB hHeld ⊢
                refine pure_ (i := 1) (N := some 43) (v := ?_) (a' := ?_) #[false, true, false, false, false, false, false, false, false, false, false, false] rfl rfl (any_of HT_.out (by kernel_rfl)) (fun _ _ _ h => h) (Or.inl ⟨by rfl, ?_⟩) ?_ ?_
                rotate_left
                · intro w'
                  go_simp
                  with_reducible rfl
                rotate_left
                · simp only [Act.put, List.setIfInBounds_toArray, List.set_cons_zero, List.set_cons_succ, i64_w, i32_w]
                  rfl
                refine pure_ (i := 5) (N := some 47) (v := ?_) (a' := ?_) #[false, true, false, false, false, true, false, false, false, false, false, false] rfl rfl (any_of HT_.out (by kernel_rfl)) (fun _ _ _ h => h) (Or.inl ⟨by rfl, ?_⟩) ?_ ?_
                rotate_left
                · intro w'
                  go_simp
                  with_reducible rfl
                rotate_left
                · simp only [Act.put, List.setIfInBounds_toArray, List.set_cons_zero, List.set_cons_succ, i64_w, i32_w]
                  rfl
                refine inv_at [0, 2, 3, 4, 6, 7, 8, 9, 10, 11] (fun a0_ b a w' => ∃ (gb243 : Nat) (gb244 : Nat) (m8_ : Value) (m9_ : Value), a = putSel a0_ b [(0, 42, .agg #[.int .i64 t226, .int .i64 t227]), (2, 44, .int .i64 t237), (3, 45, .agg #[.int .i64 t238, .int .i64 t239]), (4, 46, .agg #[.int .i64 t228, .int .i64 t229]), (6, 48, .int .i64 t240), (7, 49, .agg #[.int .i64 t241, .int .i64 t242]), (8, 18, m8_), (9, 19, m9_)] ∧ (w'.heap[gb225]? = some (.cells #[.int .u8 a3_0, .int .u8 a3_1] 22 (0, 0))) ∧ (w'.heap[gb230]? = some (.cells #[.int .i64 t226, .int .i64 t227] 25 (0, 0))) ∧ (w'.heap[gb231]? = some (.cells #[.int .i64 t228, .int .i64 t229] 25 (0, 0))) ∧ (Below w.heap.size w w') ∧ (b 8 = true → b 9 = true → gb244 ≠ gb243) ∧ (b 8 = true → b 9 = true → gb243 ≠ gb244) ∧ (b 8 = true → b 10 = false → w'.heap[gb243]? = some (.cells #[.int .i64 0, .int .i64 0] 25 (0, 0))) ∧ (b 8 = true → w.heap.size ≤ gb243) ∧ (b 8 = true → w.heap.size ≤ gb243) ∧ (b 8 = true → gb225 ≠ gb243) ∧ (b 8 = true → gb243 ≠ gb225) ∧ (b 8 = true → gb230 ≠ gb243) ∧ (b 8 = true → gb243 ≠ gb230) ∧ (b 8 = true → gb231 ≠ gb243) ∧ (b 8 = true → gb243 ≠ gb231) ∧ (b 9 = true → b 11 = false → w'.heap[gb244]? = some (.cells #[.int .i64 0, .int .i64 0] 25 (0, 0))) ∧ (b 9 = true → w.heap.size ≤ gb244) ∧ (b 9 = true → w.heap.size ≤ gb244) ∧ (b 9 = true → gb225 ≠ gb244) ∧ (b 9 = true → gb244 ≠ gb225) ∧ (b 9 = true → gb230 ≠ gb244) ∧ (b 9 = true → gb244 ≠ gb230) ∧ (b 9 = true → gb231 ≠ gb244) ∧ (b 9 = true → gb244 ≠ gb231) ∧ (b 10 = true → w'.heap[gb243]? = some (.cells #[.int .i64 t238, .int .i64 t239] 25 (0, 0))) ∧ (b 11 = true → w'.heap[gb244]? = some (.cells #[.int .i64 t241, .int .i64 t242] 25 (0, 0))) ∧ (b 8 = true → (m8_ : Value) = .pointer (some ⟨gb243, 0, none⟩)) ∧ (b 9 = true → (m9_ : Value) = .pointer (some ⟨gb244, 0, none⟩))) HT_.out HW_.out (by kernel_rfl) (by kernel_rfl) ?_ ?_ ?_
                · exact ⟨0, 0, .bool false, .bool false, by simp only [putSel, Bool.false_eq_true, if_false], BK225.out, BK230.out, BK231.out, HB.out, fun h_ => absurd h_ (by decide), fun h_ => absurd h_ (by decide), fun h_ => absurd h_ (by decide), fun h_ => absurd h_ (by decide), fun h_ => absurd h_ (by decide), fun h_ => absurd h_ (by decide), fun h_ => absurd h_ (by decide), fun h_ => absurd h_ (by decide), fun h_ => absurd h_ (by decide), fun h_ => absurd h_ (by decide), fun h_ => absurd h_ (by decide), fun h_ => absurd h_ (by decide), fun h_ => absurd h_ (by decide), fun h_ => absurd h_ (by decide), fun h_ => absurd h_ (by decide), fun h_ => absurd h_ (by decide), fun h_ => absurd h_ (by decide), fun h_ => absurd h_ (by decide), fun h_ => absurd h_ (by decide), fun h_ => absurd h_ (by decide), fun h_ => absurd h_ (by decide), fun h_ => absurd h_ (by decide), fun h_ => absurd h_ (by decide), fun h_ => absurd h_ (by decide)⟩
                · skip
                  clear BK225 BK230 BK231 HB
                  refine steps_cons ?_ ?_
                  · rintro b a w' ⟨gb243, gb244, m8_, m9_, ha, Q_BK225, Q_BK230, Q_BK231, Q_HB, Q_NB244_243, Q_NB243_244, Q_BK243, Q_GW243, Q_GE243, Q_NB225_243, Q_NB243_225, Q_NB230_243, Q_NB243_230, Q_NB231_243, Q_NB243_231, Q_BK244, Q_GW244, Q_GE244, Q_NB225_244, Q_NB244_225, Q_NB230_244, Q_NB244_230, Q_NB231_244, Q_NB244_231, Q_BK243_e10, Q_BK244_e11, Q_X8_, Q_X9_⟩ hb_ hon hoff
                    refine ⟨_, rfl, fun K hK => ?_⟩
                    have e15 : a.tmps[15]? = some (.pointer (some ⟨gb230, 0, none⟩)) := by rw [ha]; exact (putSel_off rfl).trans rfl
                    replace ha := Aside0.mk ha
                    have BK225 := Aside0.mk Q_BK225
                    have BK230 := Aside0.mk Q_BK230
                    have BK231 := Aside0.mk Q_BK231
                    have HB := Aside0.mk Q_HB
                    have hc0_ : w'.cell? ⟨gb230, 0, none⟩ = some (.int .i64 t226) := (blk_cell BK230.out 0).trans rfl
                    have hc1_ : w'.cell? ⟨gb230, 1, none⟩ = some (.int .i64 t227) := (blk_cell BK230.out 1).trans rfl
                    refine value_ (w1 := w') (v := .agg #[.int .i64 t226, .int .i64 t227]) (by rfl) rfl ?_ ?_
                    · go_simp
                      (try simp only [i64_w])
                      try rfl
                    refine hK.out _ _ ⟨gb243, gb244, m8_, m9_, (by rw [ha.out]; exact putSel_upk 0 hb_ rfl rfl rfl), Q_BK225, Q_BK230, Q_BK231, Q_HB, Q_NB244_243, Q_NB243_244, Q_BK243, Q_GW243, Q_GE243, Q_NB225_243, Q_NB243_225, Q_NB230_243, Q_NB243_230, Q_NB231_243, Q_NB243_231, Q_BK244, Q_GW244, Q_GE244, Q_NB225_244, Q_NB244_225, Q_NB230_244, Q_NB244_230, Q_NB231_244, Q_NB244_231, fun h0_ => absurd ((hoff 10 (by kernel_rfl)).symm.trans h0_) (by decide), fun h0_ => absurd ((hoff 11 (by kernel_rfl)).symm.trans h0_) (by decide), Q_X8_, Q_X9_⟩
                  refine steps_cons ?_ ?_
                  · rintro b a w' ⟨gb243, gb244, m8_, m9_, ha, Q_BK225, Q_BK230, Q_BK231, Q_HB, Q_NB244_243, Q_NB243_244, Q_BK243, Q_GW243, Q_GE243, Q_NB225_243, Q_NB243_225, Q_NB230_243, Q_NB243_230, Q_NB231_243, Q_NB243_231, Q_BK244, Q_GW244, Q_GE244, Q_NB225_244, Q_NB244_225, Q_NB230_244, Q_NB244_230, Q_NB231_244, Q_NB244_231, Q_BK243_e10, Q_BK244_e11, Q_X8_, Q_X9_⟩ hb_ hon hoff
                    refine ⟨_, rfl, fun K hK => ?_⟩
                    have e42 : a.tmps[42]? = some (.agg #[.int .i64 t226, .int .i64 t227]) := by rw [ha]; exact putSel_on (e := (0, 42, .agg #[.int .i64 t226, .int .i64 t227])) 0 rfl rfl (hon 0 (by kernel_rfl)) rfl
                    have e43 : a.tmps[43]? = some (.int .u32 a4) := by rw [ha]; exact (putSel_off rfl).trans rfl
                    replace ha := Aside0.mk ha
                    have BK225 := Aside0.mk Q_BK225
                    have BK230 := Aside0.mk Q_BK230
                    have BK231 := Aside0.mk Q_BK231
                    have HB := Aside0.mk Q_HB
                    refine goes_ Tryd.func12 (by kernel_rfl) rfl #[.agg #[.int .i64 t226, .int .i64 t227], .int .u32 a4] (by rfl) rfl rfl (by first | (simp only [List.map_toArray, List.map_cons, List.map_nil, Act.eval, Array.getD_eq_getD_getElem?, Option.getD_some, e42, e43]; done) | (simp only [List.map_toArray, List.map_cons, List.map_nil, Act.eval, Array.getD_eq_getD_getElem?, Option.getD_some, e42, e43]; rfl)) ?_
                    with_reducible refine (timeboundlaw08_member.calls t226 t227 a4 t237 _ A33.out).mono ?_
                    rintro e w53 ⟨rfl, hb⟩
                    refine ⟨_, rfl, ?_⟩
                    have n0_ := Aside0.mk (blk_below (g := gb225) (o := .cells #[.int .u8 a3_0, .int .u8 a3_1] 22 (0, 0)) (by (with_reducible repeat (first | refine blk_drewN ?_ _ | refine blk_drew ?_ | refine blk_alloc ?_ _)); exact BK225.out) hb)
                    have n1_ := Aside0.mk (blk_below (g := gb230) (o := .cells #[.int .i64 t226, .int .i64 t227] 25 (0, 0)) (by (with_reducible repeat (first | refine blk_drewN ?_ _ | refine blk_drew ?_ | refine blk_alloc ?_ _)); exact BK230.out) hb)
                    have n2_ := Aside0.mk (blk_below (g := gb231) (o := .cells #[.int .i64 t228, .int .i64 t229] 25 (0, 0)) (by (with_reducible repeat (first | refine blk_drewN ?_ _ | refine blk_drew ?_ | refine blk_alloc ?_ _)); exact BK231.out) hb)
                    have n3_ := Aside0.mk (below_step (by repeat (first | (with_reducible first | exact HB.out | apply below_alloc | apply pw_below_drewN | apply below_drew1 | refine below_set ?_ GE225.out | refine below_set ?_ GE230.out | refine below_set ?_ GE231.out) | exact HB.out)) hb)
                    have z_BK243 := fun (h0_ : b 8 = true) (h1_ : b 10 = false) => (show w53.heap[gb243]? = some (.cells #[.int .i64 0, .int .i64 0] 25 (0, 0)) from by first | exact (blk_below (g := gb243) (o := .cells #[.int .i64 0, .int .i64 0] 25 (0, 0)) (by (with_reducible repeat (first | refine blk_drewN ?_ _ | refine blk_drew ?_ | refine blk_alloc ?_ _)); exact (Q_BK243 h0_ h1_)) hb))
                    have z_BK244 := fun (h0_ : b 9 = true) (h1_ : b 11 = false) => (show w53.heap[gb244]? = some (.cells #[.int .i64 0, .int .i64 0] 25 (0, 0)) from by first | exact (blk_below (g := gb244) (o := .cells #[.int .i64 0, .int .i64 0] 25 (0, 0)) (by (with_reducible repeat (first | refine blk_drewN ?_ _ | refine blk_drew ?_ | refine blk_alloc ?_ _)); exact (Q_BK244 h0_ h1_)) hb))
                    clear BK225
                    clear BK230
                    clear BK231
                    clear HB
                    have BK225 := n0_
                    have BK230 := n1_
                    have BK231 := n2_
                    have HB := n3_
                    clear n0_ n1_ n2_ n3_
                    (try clear hb)
                    (try clear hb2)
                    (try clear hk)
                    (try clear hi)
                    refine hK.out _ _ ⟨gb243, gb244, m8_, m9_, (by rw [ha.out]; exact putSel_upk 1 hb_ rfl rfl rfl), (by (with_reducible repeat (first | refine blk_drewN ?_ _ | refine blk_drew ?_ | refine blk_alloc ?_ _)); exact BK225.out), (by (with_reducible repeat (first | refine blk_drewN ?_ _ | refine blk_drew ?_ | refine blk_alloc ?_ _)); exact BK230.out), (by (with_reducible repeat (first | refine blk_drewN ?_ _ | refine blk_drew ?_ | refine blk_alloc ?_ _)); exact BK231.out), (by repeat (first | (with_reducible first | exact HB.out | apply below_alloc | apply pw_below_drewN | apply below_drew1 | refine below_set ?_ GE225.out | refine below_set ?_ GE230.out | refine below_set ?_ GE231.out) | exact HB.out)), Q_NB244_243, Q_NB243_244, z_BK243, Q_GW243, Q_GE243, Q_NB225_243, Q_NB243_225, Q_NB230_243, Q_NB243_230, Q_NB231_243, Q_NB243_231, z_BK244, Q_GW244, Q_GE244, Q_NB225_244, Q_NB244_225, Q_NB230_244, Q_NB244_230, Q_NB231_244, Q_NB244_231, fun h0_ => absurd ((hoff 10 (by kernel_rfl)).symm.trans h0_) (by decide), fun h0_ => absurd ((hoff 11 (by kernel_rfl)).symm.trans h0_) (by decide), Q_X8_, Q_X9_⟩
                  refine steps_cons ?_ ?_
                  · rintro b a w' ⟨gb243, gb244, m8_, m9_, ha, Q_BK225, Q_BK230, Q_BK231, Q_HB, Q_NB244_243, Q_NB243_244, Q_BK243, Q_GW243, Q_GE243, Q_NB225_243, Q_NB243_225, Q_NB230_243, Q_NB243_230, Q_NB231_243, Q_NB243_231, Q_BK244, Q_GW244, Q_GE244, Q_NB225_244, Q_NB244_225, Q_NB230_244, Q_NB244_230, Q_NB231_244, Q_NB244_231, Q_BK243_e10, Q_BK244_e11, Q_X8_, Q_X9_⟩ hb_ hon hoff
                    refine ⟨_, rfl, fun K hK => ?_⟩
                    have e44 : a.tmps[44]? = some (.int .i64 t237) := by rw [ha]; exact putSel_on (e := (2, 44, .int .i64 t237)) 1 rfl rfl (hon 2 (by kernel_rfl)) rfl
                    replace ha := Aside0.mk ha
                    have BK225 := Aside0.mk Q_BK225
                    have BK230 := Aside0.mk Q_BK230
                    have BK231 := Aside0.mk Q_BK231
                    have HB := Aside0.mk Q_HB
                    refine goes_ Tryd.func16 (by kernel_rfl) rfl #[.int .i64 t237] (by rfl) rfl rfl (by first | (simp only [List.map_toArray, List.map_cons, List.map_nil, Act.eval, Array.getD_eq_getD_getElem?, Option.getD_some, e44]; done) | (simp only [List.map_toArray, List.map_cons, List.map_nil, Act.eval, Array.getD_eq_getD_getElem?, Option.getD_some, e44]; rfl)) ?_
                    with_reducible refine (congruence_Of.calls t237 t238 t239 _ A34.out).mono ?_
                    rintro e w55 ⟨rfl, hb⟩
                    refine ⟨_, rfl, ?_⟩
                    have n0_ := Aside0.mk (blk_below (g := gb225) (o := .cells #[.int .u8 a3_0, .int .u8 a3_1] 22 (0, 0)) (by (with_reducible repeat (first | refine blk_drewN ?_ _ | refine blk_drew ?_ | refine blk_alloc ?_ _)); exact BK225.out) hb)
                    have n1_ := Aside0.mk (blk_below (g := gb230) (o := .cells #[.int .i64 t226, .int .i64 t227] 25 (0, 0)) (by (with_reducible repeat (first | refine blk_drewN ?_ _ | refine blk_drew ?_ | refine blk_alloc ?_ _)); exact BK230.out) hb)
                    have n2_ := Aside0.mk (blk_below (g := gb231) (o := .cells #[.int .i64 t228, .int .i64 t229] 25 (0, 0)) (by (with_reducible repeat (first | refine blk_drewN ?_ _ | refine blk_drew ?_ | refine blk_alloc ?_ _)); exact BK231.out) hb)
                    have n3_ := Aside0.mk (below_step (by repeat (first | (with_reducible first | exact HB.out | apply below_alloc | apply pw_below_drewN | apply below_drew1 | refine below_set ?_ GE225.out | refine below_set ?_ GE230.out | refine below_set ?_ GE231.out) | exact HB.out)) hb)
                    have z_BK243 := fun (h0_ : b 8 = true) (h1_ : b 10 = false) => (show w55.heap[gb243]? = some (.cells #[.int .i64 0, .int .i64 0] 25 (0, 0)) from by first | exact (blk_below (g := gb243) (o := .cells #[.int .i64 0, .int .i64 0] 25 (0, 0)) (by (with_reducible repeat (first | refine blk_drewN ?_ _ | refine blk_drew ?_ | refine blk_alloc ?_ _)); exact (Q_BK243 h0_ h1_)) hb))
                    have z_BK244 := fun (h0_ : b 9 = true) (h1_ : b 11 = false) => (show w55.heap[gb244]? = some (.cells #[.int .i64 0, .int .i64 0] 25 (0, 0)) from by first | exact (blk_below (g := gb244) (o := .cells #[.int .i64 0, .int .i64 0] 25 (0, 0)) (by (with_reducible repeat (first | refine blk_drewN ?_ _ | refine blk_drew ?_ | refine blk_alloc ?_ _)); exact (Q_BK244 h0_ h1_)) hb))
                    clear BK225
                    clear BK230
                    clear BK231
                    clear HB
                    have BK225 := n0_
                    have BK230 := n1_
                    have BK231 := n2_
                    have HB := n3_
                    clear n0_ n1_ n2_ n3_
                    (try clear hb)
                    (try clear hb2)
                    (try clear hk)
                    (try clear hi)
                    refine hK.out _ _ ⟨gb243, gb244, m8_, m9_, (by rw [ha.out]; exact putSel_upk 2 hb_ rfl rfl rfl), (by (with_reducible repeat (first | refine blk_drewN ?_ _ | refine blk_drew ?_ | refine blk_alloc ?_ _)); exact BK225.out), (by (with_reducible repeat (first | refine blk_drewN ?_ _ | refine blk_drew ?_ | refine blk_alloc ?_ _)); exact BK230.out), (by (with_reducible repeat (first | refine blk_drewN ?_ _ | refine blk_drew ?_ | refine blk_alloc ?_ _)); exact BK231.out), (by repeat (first | (with_reducible first | exact HB.out | apply below_alloc | apply pw_below_drewN | apply below_drew1 | refine below_set ?_ GE225.out | refine below_set ?_ GE230.out | refine below_set ?_ GE231.out) | exact HB.out)), Q_NB244_243, Q_NB243_244, z_BK243, Q_GW243, Q_GE243, Q_NB225_243, Q_NB243_225, Q_NB230_243, Q_NB243_230, Q_NB231_243, Q_NB243_231, z_BK244, Q_GW244, Q_GE244, Q_NB225_244, Q_NB244_225, Q_NB230_244, Q_NB244_230, Q_NB231_244, Q_NB244_231, fun h0_ => absurd ((hoff 10 (by kernel_rfl)).symm.trans h0_) (by decide), fun h0_ => absurd ((hoff 11 (by kernel_rfl)).symm.trans h0_) (by decide), Q_X8_, Q_X9_⟩
                  refine steps_cons ?_ ?_
                  · rintro b a w' ⟨gb243, gb244, m8_, m9_, ha, Q_BK225, Q_BK230, Q_BK231, Q_HB, Q_NB244_243, Q_NB243_244, Q_BK243, Q_GW243, Q_GE243, Q_NB225_243, Q_NB243_225, Q_NB230_243, Q_NB243_230, Q_NB231_243, Q_NB243_231, Q_BK244, Q_GW244, Q_GE244, Q_NB225_244, Q_NB244_225, Q_NB230_244, Q_NB244_230, Q_NB231_244, Q_NB244_231, Q_BK243_e10, Q_BK244_e11, Q_X8_, Q_X9_⟩ hb_ hon hoff
                    refine ⟨_, rfl, fun K hK => ?_⟩
                    have e16 : a.tmps[16]? = some (.pointer (some ⟨gb231, 0, none⟩)) := by rw [ha]; exact (putSel_off rfl).trans rfl
                    replace ha := Aside0.mk ha
                    have BK225 := Aside0.mk Q_BK225
                    have BK230 := Aside0.mk Q_BK230
                    have BK231 := Aside0.mk Q_BK231
                    have HB := Aside0.mk Q_HB
                    have hc0_ : w'.cell? ⟨gb231, 0, none⟩ = some (.int .i64 t228) := (blk_cell BK231.out 0).trans rfl
                    have hc1_ : w'.cell? ⟨gb231, 1, none⟩ = some (.int .i64 t229) := (blk_cell BK231.out 1).trans rfl
                    refine value_ (w1 := w') (v := .agg #[.int .i64 t228, .int .i64 t229]) (by rfl) rfl ?_ ?_
                    · go_simp
                      (try simp only [i64_w])
                      try rfl
                    refine hK.out _ _ ⟨gb243, gb244, m8_, m9_, (by rw [ha.out]; exact putSel_upk 3 hb_ rfl rfl rfl), Q_BK225, Q_BK230, Q_BK231, Q_HB, Q_NB244_243, Q_NB243_244, Q_BK243, Q_GW243, Q_GE243, Q_NB225_243, Q_NB243_225, Q_NB230_243, Q_NB243_230, Q_NB231_243, Q_NB243_231, Q_BK244, Q_GW244, Q_GE244, Q_NB225_244, Q_NB244_225, Q_NB230_244, Q_NB244_230, Q_NB231_244, Q_NB244_231, fun h0_ => absurd ((hoff 10 (by kernel_rfl)).symm.trans h0_) (by decide), fun h0_ => absurd ((hoff 11 (by kernel_rfl)).symm.trans h0_) (by decide), Q_X8_, Q_X9_⟩
                  refine steps_cons ?_ ?_
                  · rintro b a w' ⟨gb243, gb244, m8_, m9_, ha, Q_BK225, Q_BK230, Q_BK231, Q_HB, Q_NB244_243, Q_NB243_244, Q_BK243, Q_GW243, Q_GE243, Q_NB225_243, Q_NB243_225, Q_NB230_243, Q_NB243_230, Q_NB231_243, Q_NB243_231, Q_BK244, Q_GW244, Q_GE244, Q_NB225_244, Q_NB244_225, Q_NB230_244, Q_NB244_230, Q_NB231_244, Q_NB244_231, Q_BK243_e10, Q_BK244_e11, Q_X8_, Q_X9_⟩ hb_ hon hoff
                    refine ⟨_, rfl, fun K hK => ?_⟩
                    have e46 : a.tmps[46]? = some (.agg #[.int .i64 t228, .int .i64 t229]) := by rw [ha]; exact putSel_on (e := (4, 46, .agg #[.int .i64 t228, .int .i64 t229])) 3 rfl rfl (hon 4 (by kernel_rfl)) rfl
                    have e47 : a.tmps[47]? = some (.int .u32 a5) := by rw [ha]; exact (putSel_off rfl).trans rfl
                    replace ha := Aside0.mk ha
                    have BK225 := Aside0.mk Q_BK225
                    have BK230 := Aside0.mk Q_BK230
                    have BK231 := Aside0.mk Q_BK231
                    have HB := Aside0.mk Q_HB
                    refine goes_ Tryd.func12 (by kernel_rfl) rfl #[.agg #[.int .i64 t228, .int .i64 t229], .int .u32 a5] (by rfl) rfl rfl (by first | (simp only [List.map_toArray, List.map_cons, List.map_nil, Act.eval, Array.getD_eq_getD_getElem?, Option.getD_some, e46, e47]; done) | (simp only [List.map_toArray, List.map_cons, List.map_nil, Act.eval, Array.getD_eq_getD_getElem?, Option.getD_some, e46, e47]; rfl)) ?_
                    with_reducible refine (timeboundlaw08_member.calls t228 t229 a5 t240 _ A35.out).mono ?_
                    rintro e w56 ⟨rfl, hb⟩
                    refine ⟨_, rfl, ?_⟩
                    have n0_ := Aside0.mk (blk_below (g := gb225) (o := .cells #[.int .u8 a3_0, .int .u8 a3_1] 22 (0, 0)) (by (with_reducible repeat (first | refine blk_drewN ?_ _ | refine blk_drew ?_ | refine blk_alloc ?_ _)); exact BK225.out) hb)
                    have n1_ := Aside0.mk (blk_below (g := gb230) (o := .cells #[.int .i64 t226, .int .i64 t227] 25 (0, 0)) (by (with_reducible repeat (first | refine blk_drewN ?_ _ | refine blk_drew ?_ | refine blk_alloc ?_ _)); exact BK230.out) hb)
                    have n2_ := Aside0.mk (blk_below (g := gb231) (o := .cells #[.int .i64 t228, .int .i64 t229] 25 (0, 0)) (by (with_reducible repeat (first | refine blk_drewN ?_ _ | refine blk_drew ?_ | refine blk_alloc ?_ _)); exact BK231.out) hb)
                    have n3_ := Aside0.mk (below_step (by repeat (first | (with_reducible first | exact HB.out | apply below_alloc | apply pw_below_drewN | apply below_drew1 | refine below_set ?_ GE225.out | refine below_set ?_ GE230.out | refine below_set ?_ GE231.out) | exact HB.out)) hb)
                    have z_BK243 := fun (h0_ : b 8 = true) (h1_ : b 10 = false) => (show w56.heap[gb243]? = some (.cells #[.int .i64 0, .int .i64 0] 25 (0, 0)) from by first | exact (blk_below (g := gb243) (o := .cells #[.int .i64 0, .int .i64 0] 25 (0, 0)) (by (with_reducible repeat (first | refine blk_drewN ?_ _ | refine blk_drew ?_ | refine blk_alloc ?_ _)); exact (Q_BK243 h0_ h1_)) hb))
                    have z_BK244 := fun (h0_ : b 9 = true) (h1_ : b 11 = false) => (show w56.heap[gb244]? = some (.cells #[.int .i64 0, .int .i64 0] 25 (0, 0)) from by first | exact (blk_below (g := gb244) (o := .cells #[.int .i64 0, .int .i64 0] 25 (0, 0)) (by (with_reducible repeat (first | refine blk_drewN ?_ _ | refine blk_drew ?_ | refine blk_alloc ?_ _)); exact (Q_BK244 h0_ h1_)) hb))
                    clear BK225
                    clear BK230
                    clear BK231
                    clear HB
                    have BK225 := n0_
                    have BK230 := n1_
                    have BK231 := n2_
                    have HB := n3_
                    clear n0_ n1_ n2_ n3_
                    (try clear hb)
                    (try clear hb2)
                    (try clear hk)
                    (try clear hi)
                    refine hK.out _ _ ⟨gb243, gb244, m8_, m9_, (by rw [ha.out]; exact putSel_upk 4 hb_ rfl rfl rfl), (by (with_reducible repeat (first | refine blk_drewN ?_ _ | refine blk_drew ?_ | refine blk_alloc ?_ _)); exact BK225.out), (by (with_reducible repeat (first | refine blk_drewN ?_ _ | refine blk_drew ?_ | refine blk_alloc ?_ _)); exact BK230.out), (by (with_reducible repeat (first | refine blk_drewN ?_ _ | refine blk_drew ?_ | refine blk_alloc ?_ _)); exact BK231.out), (by repeat (first | (with_reducible first | exact HB.out | apply below_alloc | apply pw_below_drewN | apply below_drew1 | refine below_set ?_ GE225.out | refine below_set ?_ GE230.out | refine below_set ?_ GE231.out) | exact HB.out)), Q_NB244_243, Q_NB243_244, z_BK243, Q_GW243, Q_GE243, Q_NB225_243, Q_NB243_225, Q_NB230_243, Q_NB243_230, Q_NB231_243, Q_NB243_231, z_BK244, Q_GW244, Q_GE244, Q_NB225_244, Q_NB244_225, Q_NB230_244, Q_NB244_230, Q_NB231_244, Q_NB244_231, fun h0_ => absurd ((hoff 10 (by kernel_rfl)).symm.trans h0_) (by decide), fun h0_ => absurd ((hoff 11 (by kernel_rfl)).symm.trans h0_) (by decide), Q_X8_, Q_X9_⟩
                  refine steps_cons ?_ ?_
                  · rintro b a w' ⟨gb243, gb244, m8_, m9_, ha, Q_BK225, Q_BK230, Q_BK231, Q_HB, Q_NB244_243, Q_NB243_244, Q_BK243, Q_GW243, Q_GE243, Q_NB225_243, Q_NB243_225, Q_NB230_243, Q_NB243_230, Q_NB231_243, Q_NB243_231, Q_BK244, Q_GW244, Q_GE244, Q_NB225_244, Q_NB244_225, Q_NB230_244, Q_NB244_230, Q_NB231_244, Q_NB244_231, Q_BK243_e10, Q_BK244_e11, Q_X8_, Q_X9_⟩ hb_ hon hoff
                    refine ⟨_, rfl, fun K hK => ?_⟩
                    have e48 : a.tmps[48]? = some (.int .i64 t240) := by rw [ha]; exact putSel_on (e := (6, 48, .int .i64 t240)) 4 rfl rfl (hon 6 (by kernel_rfl)) rfl
                    replace ha := Aside0.mk ha
                    have BK225 := Aside0.mk Q_BK225
                    have BK230 := Aside0.mk Q_BK230
                    have BK231 := Aside0.mk Q_BK231
                    have HB := Aside0.mk Q_HB
                    refine goes_ Tryd.func16 (by kernel_rfl) rfl #[.int .i64 t240] (by rfl) rfl rfl (by first | (simp only [List.map_toArray, List.map_cons, List.map_nil, Act.eval, Array.getD_eq_getD_getElem?, Option.getD_some, e48]; done) | (simp only [List.map_toArray, List.map_cons, List.map_nil, Act.eval, Array.getD_eq_getD_getElem?, Option.getD_some, e48]; rfl)) ?_
                    with_reducible refine (congruence_Of.calls t240 t241 t242 _ A36.out).mono ?_
                    rintro e w57 ⟨rfl, hb⟩
                    refine ⟨_, rfl, ?_⟩
                    have n0_ := Aside0.mk (blk_below (g := gb225) (o := .cells #[.int .u8 a3_0, .int .u8 a3_1] 22 (0, 0)) (by (with_reducible repeat (first | refine blk_drewN ?_ _ | refine blk_drew ?_ | refine blk_alloc ?_ _)); exact BK225.out) hb)
                    have n1_ := Aside0.mk (blk_below (g := gb230) (o := .cells #[.int .i64 t226, .int .i64 t227] 25 (0, 0)) (by (with_reducible repeat (first | refine blk_drewN ?_ _ | refine blk_drew ?_ | refine blk_alloc ?_ _)); exact BK230.out) hb)
                    have n2_ := Aside0.mk (blk_below (g := gb231) (o := .cells #[.int .i64 t228, .int .i64 t229] 25 (0, 0)) (by (with_reducible repeat (first | refine blk_drewN ?_ _ | refine blk_drew ?_ | refine blk_alloc ?_ _)); exact BK231.out) hb)
                    have n3_ := Aside0.mk (below_step (by repeat (first | (with_reducible first | exact HB.out | apply below_alloc | apply pw_below_drewN | apply below_drew1 | refine below_set ?_ GE225.out | refine below_set ?_ GE230.out | refine below_set ?_ GE231.out) | exact HB.out)) hb)
                    have z_BK243 := fun (h0_ : b 8 = true) (h1_ : b 10 = false) => (show w57.heap[gb243]? = some (.cells #[.int .i64 0, .int .i64 0] 25 (0, 0)) from by first | exact (blk_below (g := gb243) (o := .cells #[.int .i64 0, .int .i64 0] 25 (0, 0)) (by (with_reducible repeat (first | refine blk_drewN ?_ _ | refine blk_drew ?_ | refine blk_alloc ?_ _)); exact (Q_BK243 h0_ h1_)) hb))
                    have z_BK244 := fun (h0_ : b 9 = true) (h1_ : b 11 = false) => (show w57.heap[gb244]? = some (.cells #[.int .i64 0, .int .i64 0] 25 (0, 0)) from by first | exact (blk_below (g := gb244) (o := .cells #[.int .i64 0, .int .i64 0] 25 (0, 0)) (by (with_reducible repeat (first | refine blk_drewN ?_ _ | refine blk_drew ?_ | refine blk_alloc ?_ _)); exact (Q_BK244 h0_ h1_)) hb))
                    clear BK225
                    clear BK230
                    clear BK231
                    clear HB
                    have BK225 := n0_
                    have BK230 := n1_
                    have BK231 := n2_
                    have HB := n3_
                    clear n0_ n1_ n2_ n3_
                    (try clear hb)
                    (try clear hb2)
                    (try clear hk)
                    (try clear hi)
                    refine hK.out _ _ ⟨gb243, gb244, m8_, m9_, (by rw [ha.out]; exact putSel_upk 5 hb_ rfl rfl rfl), (by (with_reducible repeat (first | refine blk_drewN ?_ _ | refine blk_drew ?_ | refine blk_alloc ?_ _)); exact BK225.out), (by (with_reducible repeat (first | refine blk_drewN ?_ _ | refine blk_drew ?_ | refine blk_alloc ?_ _)); exact BK230.out), (by (with_reducible repeat (first | refine blk_drewN ?_ _ | refine blk_drew ?_ | refine blk_alloc ?_ _)); exact BK231.out), (by repeat (first | (with_reducible first | exact HB.out | apply below_alloc | apply pw_below_drewN | apply below_drew1 | refine below_set ?_ GE225.out | refine below_set ?_ GE230.out | refine below_set ?_ GE231.out) | exact HB.out)), Q_NB244_243, Q_NB243_244, z_BK243, Q_GW243, Q_GE243, Q_NB225_243, Q_NB243_225, Q_NB230_243, Q_NB243_230, Q_NB231_243, Q_NB243_231, z_BK244, Q_GW244, Q_GE244, Q_NB225_244, Q_NB244_225, Q_NB230_244, Q_NB244_230, Q_NB231_244, Q_NB244_231, fun h0_ => absurd ((hoff 10 (by kernel_rfl)).symm.trans h0_) (by decide), fun h0_ => absurd ((hoff 11 (by kernel_rfl)).symm.trans h0_) (by decide), Q_X8_, Q_X9_⟩
                  refine steps_cons ?_ ?_
                  · rintro b a w' ⟨gb243, gb244, m8_, m9_, ha, Q_BK225, Q_BK230, Q_BK231, Q_HB, Q_NB244_243, Q_NB243_244, Q_BK243, Q_GW243, Q_GE243, Q_NB225_243, Q_NB243_225, Q_NB230_243, Q_NB243_230, Q_NB231_243, Q_NB243_231, Q_BK244, Q_GW244, Q_GE244, Q_NB225_244, Q_NB244_225, Q_NB230_244, Q_NB244_230, Q_NB231_244, Q_NB244_231, Q_BK243_e10, Q_BK244_e11, Q_X8_, Q_X9_⟩ hb_ hon hoff
                    refine ⟨_, rfl, fun K hK => ?_⟩
                    replace ha := Aside0.mk ha
                    have BK225 := Aside0.mk Q_BK225
                    have BK230 := Aside0.mk Q_BK230
                    have BK231 := Aside0.mk Q_BK231
                    have HB := Aside0.mk Q_HB
                    refine box_step ?hg (N := 18) ?hd (cs := #[.int .i64 0, .int .i64 0]) (t := 25) ?hr ?_; (case hd => rfl); (case hg => rfl); (case hr => first | (go_simp; done) | (go_simp; rfl))
                    intro gb243 hg w53 hbox hb
                    have n0_ := Aside0.mk (blk_below (g := gb225) (o := .cells #[.int .u8 a3_0, .int .u8 a3_1] 22 (0, 0)) (by (with_reducible repeat (first | refine blk_drewN ?_ _ | refine blk_drew ?_ | refine blk_alloc ?_ _)); exact BK225.out) hb)
                    have n1_ := Aside0.mk (blk_below (g := gb230) (o := .cells #[.int .i64 t226, .int .i64 t227] 25 (0, 0)) (by (with_reducible repeat (first | refine blk_drewN ?_ _ | refine blk_drew ?_ | refine blk_alloc ?_ _)); exact BK230.out) hb)
                    have n2_ := Aside0.mk (blk_below (g := gb231) (o := .cells #[.int .i64 t228, .int .i64 t229] 25 (0, 0)) (by (with_reducible repeat (first | refine blk_drewN ?_ _ | refine blk_drew ?_ | refine blk_alloc ?_ _)); exact BK231.out) hb)
                    have n3_ := Aside0.mk (below_step (by repeat (first | (with_reducible first | exact HB.out | apply below_alloc | apply pw_below_drewN | apply below_drew1 | refine below_set ?_ GE225.out | refine below_set ?_ GE230.out | refine below_set ?_ GE231.out) | exact HB.out)) hb)
                    have n4_ := Aside0.mk (hbox)
                    have n5_ := Aside0.mk ((by rw [hg]; exact (below_size (by repeat (first | (with_reducible first | exact HB.out | apply below_alloc | apply pw_below_drewN | apply below_drew1 | refine below_set ?_ GE225.out | refine below_set ?_ GE230.out | refine below_set ?_ GE231.out) | exact HB.out))) : w.heap.size ≤ gb243))
                    have n6_ := Aside0.mk ((by rw [hg]; exact (below_size (by repeat (first | (with_reducible first | exact HB.out | apply below_alloc | apply pw_below_drewN | apply below_drew1 | refine below_set ?_ GE225.out | refine below_set ?_ GE230.out | refine below_set ?_ GE231.out) | exact HB.out))) : w.heap.size ≤ gb243))
                    have n7_ := Aside0.mk ((by rw [hg]; exact Nat.ne_of_lt (blk_lt (g := gb225) (o := .cells #[.int .u8 a3_0, .int .u8 a3_1] 22 (0, 0)) (by (with_reducible repeat (first | refine blk_drewN ?_ _ | refine blk_drew ?_ | refine blk_alloc ?_ _)); exact BK225.out)) : gb225 ≠ gb243))
                    have n8_ := Aside0.mk ((by rw [hg]; exact Nat.ne_of_gt (blk_lt (g := gb225) (o := .cells #[.int .u8 a3_0, .int .u8 a3_1] 22 (0, 0)) (by (with_reducible repeat (first | refine blk_drewN ?_ _ | refine blk_drew ?_ | refine blk_alloc ?_ _)); exact BK225.out)) : gb243 ≠ gb225))
                    have n9_ := Aside0.mk ((by rw [hg]; exact Nat.ne_of_lt (blk_lt (g := gb230) (o := .cells #[.int .i64 t226, .int .i64 t227] 25 (0, 0)) (by (with_reducible repeat (first | refine blk_drewN ?_ _ | refine blk_drew ?_ | refine blk_alloc ?_ _)); exact BK230.out)) : gb230 ≠ gb243))
                    have n10_ := Aside0.mk ((by rw [hg]; exact Nat.ne_of_gt (blk_lt (g := gb230) (o := .cells #[.int .i64 t226, .int .i64 t227] 25 (0, 0)) (by (with_reducible repeat (first | refine blk_drewN ?_ _ | refine blk_drew ?_ | refine blk_alloc ?_ _)); exact BK230.out)) : gb243 ≠ gb230))
                    have n11_ := Aside0.mk ((by rw [hg]; exact Nat.ne_of_lt (blk_lt (g := gb231) (o := .cells #[.int .i64 t228, .int .i64 t229] 25 (0, 0)) (by (with_reducible repeat (first | refine blk_drewN ?_ _ | refine blk_drew ?_ | refine blk_alloc ?_ _)); exact BK231.out)) : gb231 ≠ gb243))
                    have n12_ := Aside0.mk ((by rw [hg]; exact Nat.ne_of_gt (blk_lt (g := gb231) (o := .cells #[.int .i64 t228, .int .i64 t229] 25 (0, 0)) (by (with_reducible repeat (first | refine blk_drewN ?_ _ | refine blk_drew ?_ | refine blk_alloc ?_ _)); exact BK231.out)) : gb243 ≠ gb231))
                    have z_NB244_243 := fun (h0_ : up b 8 8 = true) (h1_ : up b 8 9 = true) => (show gb244 ≠ gb243 from ((by rw [hg]; exact Nat.ne_of_lt (blk_lt (g := gb244) (o := .cells #[.int .i64 0, .int .i64 0] 25 (0, 0)) (by (with_reducible repeat (first | refine blk_drewN ?_ _ | refine blk_drew ?_ | refine blk_alloc ?_ _)); exact (Q_BK244 h1_ (hoff 11 (by kernel_rfl))))) : gb244 ≠ gb243)))
                    have z_NB243_244 := fun (h0_ : up b 8 8 = true) (h1_ : up b 8 9 = true) => (show gb243 ≠ gb244 from ((by rw [hg]; exact Nat.ne_of_gt (blk_lt (g := gb244) (o := .cells #[.int .i64 0, .int .i64 0] 25 (0, 0)) (by (with_reducible repeat (first | refine blk_drewN ?_ _ | refine blk_drew ?_ | refine blk_alloc ?_ _)); exact (Q_BK244 h1_ (hoff 11 (by kernel_rfl))))) : gb243 ≠ gb244)))
                    have z_BK244 := fun (h0_ : b 9 = true) (h1_ : b 11 = false) => (show w53.heap[gb244]? = some (.cells #[.int .i64 0, .int .i64 0] 25 (0, 0)) from by first | exact (blk_below (g := gb244) (o := .cells #[.int .i64 0, .int .i64 0] 25 (0, 0)) (by (with_reducible repeat (first | refine blk_drewN ?_ _ | refine blk_drew ?_ | refine blk_alloc ?_ _)); exact (Q_BK244 h0_ h1_)) hb))
                    clear BK225
                    clear BK230
                    clear BK231
                    clear HB
                    have BK225 := n0_
                    have BK230 := n1_
                    have BK231 := n2_
                    have HB := n3_
                    have BK243 := n4_
                    have GW243 := n5_
                    have GE243 := n6_
                    have NB225_243 := n7_
                    have NB243_225 := n8_
                    have NB230_243 := n9_
                    have NB243_230 := n10_
                    have NB231_243 := n11_
                    have NB243_231 := n12_
                    clear n0_ n1_ n2_ n3_ n4_ n5_ n6_ n7_ n8_ n9_ n10_ n11_ n12_
                    clear hb hbox hg
                    refine hK.out _ _ ⟨gb243, gb244, (.pointer (some ⟨gb243, 0, none⟩)), m9_, (by rw [ha.out]; exact putSel_upk 6 hb_ rfl rfl rfl), (by (with_reducible repeat (first | refine blk_drewN ?_ _ | refine blk_drew ?_ | refine blk_alloc ?_ _)); exact BK225.out), (by (with_reducible repeat (first | refine blk_drewN ?_ _ | refine blk_drew ?_ | refine blk_alloc ?_ _)); exact BK230.out), (by (with_reducible repeat (first | refine blk_drewN ?_ _ | refine blk_drew ?_ | refine blk_alloc ?_ _)); exact BK231.out), (by repeat (first | (with_reducible first | exact HB.out | apply below_alloc | apply pw_below_drewN | apply below_drew1 | refine below_set ?_ GE225.out | refine below_set ?_ GE230.out | refine below_set ?_ GE231.out | refine below_set ?_ GE243.out) | exact HB.out)), z_NB244_243, z_NB243_244, fun _ _ => (by (with_reducible repeat (first | refine blk_drewN ?_ _ | refine blk_drew ?_ | refine blk_alloc ?_ _)); exact BK243.out), fun _ => GW243.out, fun _ => GE243.out, fun _ => NB225_243.out, fun _ => NB243_225.out, fun _ => NB230_243.out, fun _ => NB243_230.out, fun _ => NB231_243.out, fun _ => NB243_231.out, z_BK244, Q_GW244, Q_GE244, Q_NB225_244, Q_NB244_225, Q_NB230_244, Q_NB244_230, Q_NB231_244, Q_NB244_231, fun h0_ => absurd ((hoff 10 (by kernel_rfl)).symm.trans h0_) (by decide), fun h0_ => absurd ((hoff 11 (by kernel_rfl)).symm.trans h0_) (by decide), fun _ => rfl, Q_X9_⟩
                  refine steps_cons ?_ ?_
                  · rintro b a w' ⟨gb243, gb244, m8_, m9_, ha, Q_BK225, Q_BK230, Q_BK231, Q_HB, Q_NB244_243, Q_NB243_244, Q_BK243, Q_GW243, Q_GE243, Q_NB225_243, Q_NB243_225, Q_NB230_243, Q_NB243_230, Q_NB231_243, Q_NB243_231, Q_BK244, Q_GW244, Q_GE244, Q_NB225_244, Q_NB244_225, Q_NB230_244, Q_NB244_230, Q_NB231_244, Q_NB244_231, Q_BK243_e10, Q_BK244_e11, Q_X8_, Q_X9_⟩ hb_ hon hoff
                    refine ⟨_, rfl, fun K hK => ?_⟩
                    replace ha := Aside0.mk ha
                    have BK225 := Aside0.mk Q_BK225
                    have BK230 := Aside0.mk Q_BK230
                    have BK231 := Aside0.mk Q_BK231
                    have HB := Aside0.mk Q_HB
                    refine box_step ?hg (N := 19) ?hd (cs := #[.int .i64 0, .int .i64 0]) (t := 25) ?hr ?_; (case hd => rfl); (case hg => rfl); (case hr => first | (go_simp; done) | (go_simp; rfl))
                    intro gb244 hg w53 hbox hb
                    have n0_ := Aside0.mk (blk_below (g := gb225) (o := .cells #[.int .u8 a3_0, .int .u8 a3_1] 22 (0, 0)) (by (with_reducible repeat (first | refine blk_drewN ?_ _ | refine blk_drew ?_ | refine blk_alloc ?_ _)); exact BK225.out) hb)
                    have n1_ := Aside0.mk (blk_below (g := gb230) (o := .cells #[.int .i64 t226, .int .i64 t227] 25 (0, 0)) (by (with_reducible repeat (first | refine blk_drewN ?_ _ | refine blk_drew ?_ | refine blk_alloc ?_ _)); exact BK230.out) hb)
                    have n2_ := Aside0.mk (blk_below (g := gb231) (o := .cells #[.int .i64 t228, .int .i64 t229] 25 (0, 0)) (by (with_reducible repeat (first | refine blk_drewN ?_ _ | refine blk_drew ?_ | refine blk_alloc ?_ _)); exact BK231.out) hb)
                    have n3_ := Aside0.mk (below_step (by repeat (first | (with_reducible first | exact HB.out | apply below_alloc | apply pw_below_drewN | apply below_drew1 | refine below_set ?_ GE225.out | refine below_set ?_ GE230.out | refine below_set ?_ GE231.out) | exact HB.out)) hb)
                    have n4_ := Aside0.mk (hbox)
                    have n5_ := Aside0.mk ((by rw [hg]; exact (below_size (by repeat (first | (with_reducible first | exact HB.out | apply below_alloc | apply pw_below_drewN | apply below_drew1 | refine below_set ?_ GE225.out | refine below_set ?_ GE230.out | refine below_set ?_ GE231.out) | exact HB.out))) : w.heap.size ≤ gb244))
                    have n6_ := Aside0.mk ((by rw [hg]; exact (below_size (by repeat (first | (with_reducible first | exact HB.out | apply below_alloc | apply pw_below_drewN | apply below_drew1 | refine below_set ?_ GE225.out | refine below_set ?_ GE230.out | refine below_set ?_ GE231.out) | exact HB.out))) : w.heap.size ≤ gb244))
                    have n7_ := Aside0.mk ((by rw [hg]; exact Nat.ne_of_lt (blk_lt (g := gb225) (o := .cells #[.int .u8 a3_0, .int .u8 a3_1] 22 (0, 0)) (by (with_reducible repeat (first | refine blk_drewN ?_ _ | refine blk_drew ?_ | refine blk_alloc ?_ _)); exact BK225.out)) : gb225 ≠ gb244))
                    have n8_ := Aside0.mk ((by rw [hg]; exact Nat.ne_of_gt (blk_lt (g := gb225) (o := .cells #[.int .u8 a3_0, .int .u8 a3_1] 22 (0, 0)) (by (with_reducible repeat (first | refine blk_drewN ?_ _ | refine blk_drew ?_ | refine blk_alloc ?_ _)); exact BK225.out)) : gb244 ≠ gb225))
                    have n9_ := Aside0.mk ((by rw [hg]; exact Nat.ne_of_lt (blk_lt (g := gb230) (o := .cells #[.int .i64 t226, .int .i64 t227] 25 (0, 0)) (by (with_reducible repeat (first | refine blk_drewN ?_ _ | refine blk_drew ?_ | refine blk_alloc ?_ _)); exact BK230.out)) : gb230 ≠ gb244))
                    have n10_ := Aside0.mk ((by rw [hg]; exact Nat.ne_of_gt (blk_lt (g := gb230) (o := .cells #[.int .i64 t226, .int .i64 t227] 25 (0, 0)) (by (with_reducible repeat (first | refine blk_drewN ?_ _ | refine blk_drew ?_ | refine blk_alloc ?_ _)); exact BK230.out)) : gb244 ≠ gb230))
                    have n11_ := Aside0.mk ((by rw [hg]; exact Nat.ne_of_lt (blk_lt (g := gb231) (o := .cells #[.int .i64 t228, .int .i64 t229] 25 (0, 0)) (by (with_reducible repeat (first | refine blk_drewN ?_ _ | refine blk_drew ?_ | refine blk_alloc ?_ _)); exact BK231.out)) : gb231 ≠ gb244))
                    have n12_ := Aside0.mk ((by rw [hg]; exact Nat.ne_of_gt (blk_lt (g := gb231) (o := .cells #[.int .i64 t228, .int .i64 t229] 25 (0, 0)) (by (with_reducible repeat (first | refine blk_drewN ?_ _ | refine blk_drew ?_ | refine blk_alloc ?_ _)); exact BK231.out)) : gb244 ≠ gb231))
                    have z_NB244_243 := fun (h0_ : up b 9 8 = true) (h1_ : up b 9 9 = true) => (show gb244 ≠ gb243 from ((by rw [hg]; exact Nat.ne_of_gt (blk_lt (g := gb243) (o := .cells #[.int .i64 0, .int .i64 0] 25 (0, 0)) (by (with_reducible repeat (first | refine blk_drewN ?_ _ | refine blk_drew ?_ | refine blk_alloc ?_ _)); exact (Q_BK243 h0_ (hoff 10 (by kernel_rfl))))) : gb244 ≠ gb243)))
                    have z_NB243_244 := fun (h0_ : up b 9 8 = true) (h1_ : up b 9 9 = true) => (show gb243 ≠ gb244 from ((by rw [hg]; exact Nat.ne_of_lt (blk_lt (g := gb243) (o := .cells #[.int .i64 0, .int .i64 0] 25 (0, 0)) (by (with_reducible repeat (first | refine blk_drewN ?_ _ | refine blk_drew ?_ | refine blk_alloc ?_ _)); exact (Q_BK243 h0_ (hoff 10 (by kernel_rfl))))) : gb243 ≠ gb244)))
                    have z_BK243 := fun (h0_ : b 8 = true) (h1_ : b 10 = false) => (show w53.heap[gb243]? = some (.cells #[.int .i64 0, .int .i64 0] 25 (0, 0)) from by first | exact (blk_below (g := gb243) (o := .cells #[.int .i64 0, .int .i64 0] 25 (0, 0)) (by (with_reducible repeat (first | refine blk_drewN ?_ _ | refine blk_drew ?_ | refine blk_alloc ?_ _)); exact (Q_BK243 h0_ h1_)) hb))
                    clear BK225
                    clear BK230
                    clear BK231
                    clear HB
                    have BK225 := n0_
                    have BK230 := n1_
                    have BK231 := n2_
                    have HB := n3_
                    have BK244 := n4_
                    have GW244 := n5_
                    have GE244 := n6_
                    have NB225_244 := n7_
                    have NB244_225 := n8_
                    have NB230_244 := n9_
                    have NB244_230 := n10_
                    have NB231_244 := n11_
                    have NB244_231 := n12_
                    clear n0_ n1_ n2_ n3_ n4_ n5_ n6_ n7_ n8_ n9_ n10_ n11_ n12_
                    clear hb hbox hg
                    refine hK.out _ _ ⟨gb243, gb244, m8_, (.pointer (some ⟨gb244, 0, none⟩)), (by rw [ha.out]; exact putSel_upk 7 hb_ rfl rfl rfl), (by (with_reducible repeat (first | refine blk_drewN ?_ _ | refine blk_drew ?_ | refine blk_alloc ?_ _)); exact BK225.out), (by (with_reducible repeat (first | refine blk_drewN ?_ _ | refine blk_drew ?_ | refine blk_alloc ?_ _)); exact BK230.out), (by (with_reducible repeat (first | refine blk_drewN ?_ _ | refine blk_drew ?_ | refine blk_alloc ?_ _)); exact BK231.out), (by repeat (first | (with_reducible first | exact HB.out | apply below_alloc | apply pw_below_drewN | apply below_drew1 | refine below_set ?_ GE225.out | refine below_set ?_ GE230.out | refine below_set ?_ GE231.out | refine below_set ?_ GE244.out) | exact HB.out)), z_NB244_243, z_NB243_244, z_BK243, Q_GW243, Q_GE243, Q_NB225_243, Q_NB243_225, Q_NB230_243, Q_NB243_230, Q_NB231_243, Q_NB243_231, fun _ _ => (by (with_reducible repeat (first | refine blk_drewN ?_ _ | refine blk_drew ?_ | refine blk_alloc ?_ _)); exact BK244.out), fun _ => GW244.out, fun _ => GE244.out, fun _ => NB225_244.out, fun _ => NB244_225.out, fun _ => NB230_244.out, fun _ => NB244_230.out, fun _ => NB231_244.out, fun _ => NB244_231.out, fun h0_ => absurd ((hoff 10 (by kernel_rfl)).symm.trans h0_) (by decide), fun h0_ => absurd ((hoff 11 (by kernel_rfl)).symm.trans h0_) (by decide), Q_X8_, fun _ => rfl⟩
                  refine steps_cons ?_ ?_
                  · rintro b a w' ⟨gb243, gb244, m8_, m9_, ha, Q_BK225, Q_BK230, Q_BK231, Q_HB, Q_NB244_243, Q_NB243_244, Q_BK243, Q_GW243, Q_GE243, Q_NB225_243, Q_NB243_225, Q_NB230_243, Q_NB243_230, Q_NB231_243, Q_NB243_231, Q_BK244, Q_GW244, Q_GE244, Q_NB225_244, Q_NB244_225, Q_NB230_244, Q_NB244_230, Q_NB231_244, Q_NB244_231, Q_BK243_e10, Q_BK244_e11, Q_X8_, Q_X9_⟩ hb_ hon hoff
                    refine ⟨_, rfl, fun K hK => ?_⟩
                    have e18 : a.tmps[18]? = some (m8_) := by rw [ha]; exact putSel_on (e := (8, 18, m8_)) 6 rfl rfl (hon 8 (by kernel_rfl)) rfl
                    rw [Q_X8_ (hon 8 (by kernel_rfl))] at e18
                    have e45 : a.tmps[45]? = some (.agg #[.int .i64 t238, .int .i64 t239]) := by rw [ha]; exact putSel_on (e := (3, 45, .agg #[.int .i64 t238, .int .i64 t239])) 2 rfl rfl (hon 3 (by kernel_rfl)) rfl
                    replace ha := Aside0.mk ha
                    have BK225 := Aside0.mk Q_BK225
                    have BK230 := Aside0.mk Q_BK230
                    have BK231 := Aside0.mk Q_BK231
                    have HB := Aside0.mk Q_HB
                    have NB244_243 := Aside0.mk (Q_NB244_243 (hon 8 (by kernel_rfl)) (hon 9 (by kernel_rfl)))
                    have NB243_244 := Aside0.mk (Q_NB243_244 (hon 8 (by kernel_rfl)) (hon 9 (by kernel_rfl)))
                    have BK243 := Aside0.mk (Q_BK243 (hon 8 (by kernel_rfl)) hb_)
                    have GW243 := Aside0.mk (Q_GW243 (hon 8 (by kernel_rfl)))
                    have GE243 := Aside0.mk (Q_GE243 (hon 8 (by kernel_rfl)))
                    have NB225_243 := Aside0.mk (Q_NB225_243 (hon 8 (by kernel_rfl)))
                    have NB243_225 := Aside0.mk (Q_NB243_225 (hon 8 (by kernel_rfl)))
                    have NB230_243 := Aside0.mk (Q_NB230_243 (hon 8 (by kernel_rfl)))
                    have NB243_230 := Aside0.mk (Q_NB243_230 (hon 8 (by kernel_rfl)))
                    have NB231_243 := Aside0.mk (Q_NB231_243 (hon 8 (by kernel_rfl)))
                    have NB243_231 := Aside0.mk (Q_NB243_231 (hon 8 (by kernel_rfl)))
                    have BK244 := Aside0.mk (Q_BK244 (hon 9 (by kernel_rfl)) (hoff 11 (by kernel_rfl)))
                    have GW244 := Aside0.mk (Q_GW244 (hon 9 (by kernel_rfl)))
                    have GE244 := Aside0.mk (Q_GE244 (hon 9 (by kernel_rfl)))
                    have NB225_244 := Aside0.mk (Q_NB225_244 (hon 9 (by kernel_rfl)))
                    have NB244_225 := Aside0.mk (Q_NB244_225 (hon 9 (by kernel_rfl)))
                    have NB230_244 := Aside0.mk (Q_NB230_244 (hon 9 (by kernel_rfl)))
                    have NB244_230 := Aside0.mk (Q_NB244_230 (hon 9 (by kernel_rfl)))
                    have NB231_244 := Aside0.mk (Q_NB231_244 (hon 9 (by kernel_rfl)))
                    have NB244_231 := Aside0.mk (Q_NB244_231 (hon 9 (by kernel_rfl)))
                    have hs60 : w'.cell? ⟨gb243, 0, none⟩ = some (.int .i64 0) := (blk_cell BK243.out 0).trans rfl
                    have hfs60 := blk_frozen BK243.out 0
                    have hns60_0 := NB225_243.out
                    have hns60_1 := NB230_243.out
                    have hns60_2 := NB231_243.out
                    have hns60_4 := NB244_243.out
                    have hms60_0 := NB243_225.out
                    have hms60_1 := NB243_230.out
                    have hms60_2 := NB243_231.out
                    have hms60_4 := NB243_244.out
                    have hs61 : w'.cell? ⟨gb243, 1, none⟩ = some (.int .i64 0) := (blk_cell BK243.out 1).trans rfl
                    have hfs61 := blk_frozen BK243.out 1
                    have hns61_0 := NB225_243.out
                    have hns61_1 := NB230_243.out
                    have hns61_2 := NB231_243.out
                    have hns61_4 := NB244_243.out
                    have hms61_0 := NB243_225.out
                    have hms61_1 := NB243_230.out
                    have hms61_2 := NB243_231.out
                    have hms61_4 := NB243_244.out
                    refine skip_ (w1 := ?_) (by rfl) rfl ?_ ?_
                    rotate_left
                    · go_simp
                      rfl
                    refine hK.out _ _ ⟨gb243, gb244, m8_, m9_, (by rw [ha.out]; exact putSel_none (v := undef) rfl), (by (with_reducible repeat (first | refine blk_drewN ?_ _ | refine blk_drew ?_ | refine blk_alloc ?_ _)); refine blk_far ?_ NB225_243.out _; (with_reducible repeat (first | refine blk_drewN ?_ _ | refine blk_drew ?_ | refine blk_alloc ?_ _)); refine blk_far ?_ NB225_243.out _; (with_reducible repeat (first | refine blk_drewN ?_ _ | refine blk_drew ?_ | refine blk_alloc ?_ _)); exact BK225.out), (by (with_reducible repeat (first | refine blk_drewN ?_ _ | refine blk_drew ?_ | refine blk_alloc ?_ _)); refine blk_far ?_ NB230_243.out _; (with_reducible repeat (first | refine blk_drewN ?_ _ | refine blk_drew ?_ | refine blk_alloc ?_ _)); refine blk_far ?_ NB230_243.out _; (with_reducible repeat (first | refine blk_drewN ?_ _ | refine blk_drew ?_ | refine blk_alloc ?_ _)); exact BK230.out), (by (with_reducible repeat (first | refine blk_drewN ?_ _ | refine blk_drew ?_ | refine blk_alloc ?_ _)); refine blk_far ?_ NB231_243.out _; (with_reducible repeat (first | refine blk_drewN ?_ _ | refine blk_drew ?_ | refine blk_alloc ?_ _)); refine blk_far ?_ NB231_243.out _; (with_reducible repeat (first | refine blk_drewN ?_ _ | refine blk_drew ?_ | refine blk_alloc ?_ _)); exact BK231.out), (by repeat (first | (with_reducible first | exact HB.out | apply below_alloc | apply pw_below_drewN | apply below_drew1 | refine below_set ?_ GE225.out | refine below_set ?_ GE230.out | refine below_set ?_ GE231.out | refine below_set ?_ GE243.out | refine below_set ?_ GE244.out) | exact HB.out)), fun _ _ => NB244_243.out, fun _ _ => NB243_244.out, fun _ h1_ => absurd ((up_self b 10).symm.trans h1_) (by decide), fun _ => GW243.out, fun _ => GE243.out, fun _ => NB225_243.out, fun _ => NB243_225.out, fun _ => NB230_243.out, fun _ => NB243_230.out, fun _ => NB231_243.out, fun _ => NB243_231.out, fun _ _ => (by (with_reducible repeat (first | refine blk_drewN ?_ _ | refine blk_drew ?_ | refine blk_alloc ?_ _)); refine blk_far ?_ NB244_243.out _; (with_reducible repeat (first | refine blk_drewN ?_ _ | refine blk_drew ?_ | refine blk_alloc ?_ _)); refine blk_far ?_ NB244_243.out _; (with_reducible repeat (first | refine blk_drewN ?_ _ | refine blk_drew ?_ | refine blk_alloc ?_ _)); exact BK244.out), fun _ => GW244.out, fun _ => GE244.out, fun _ => NB225_244.out, fun _ => NB244_225.out, fun _ => NB230_244.out, fun _ => NB244_230.out, fun _ => NB231_244.out, fun _ => NB244_231.out, fun _ => (by (with_reducible repeat (first | refine blk_drewN ?_ _ | refine blk_drew ?_ | refine blk_alloc ?_ _)); refine blk_put (cs := #[.int .i64 t238, .int .i64 0]) ?_ 1 _ rfl; (with_reducible repeat (first | refine blk_drewN ?_ _ | refine blk_drew ?_ | refine blk_alloc ?_ _)); refine blk_put (cs := #[.int .i64 0, .int .i64 0]) ?_ 0 _ rfl; (with_reducible repeat (first | refine blk_drewN ?_ _ | refine blk_drew ?_ | refine blk_alloc ?_ _)); exact BK243.out), fun h0_ => absurd ((hoff 11 (by kernel_rfl)).symm.trans h0_) (by decide), Q_X8_, Q_X9_⟩
                  refine steps_cons ?_ ?_
                  · rintro b a w' ⟨gb243, gb244, m8_, m9_, ha, Q_BK225, Q_BK230, Q_BK231, Q_HB, Q_NB244_243, Q_NB243_244, Q_BK243, Q_GW243, Q_GE243, Q_NB225_243, Q_NB243_225, Q_NB230_243, Q_NB243_230, Q_NB231_243, Q_NB243_231, Q_BK244, Q_GW244, Q_GE244, Q_NB225_244, Q_NB244_225, Q_NB230_244, Q_NB244_230, Q_NB231_244, Q_NB244_231, Q_BK243_e10, Q_BK244_e11, Q_X8_, Q_X9_⟩ hb_ hon hoff
                    refine ⟨_, rfl, fun K hK => ?_⟩
                    have e19 : a.tmps[19]? = some (m9_) := by rw [ha]; exact putSel_on (e := (9, 19, m9_)) 7 rfl rfl (hon 9 (by kernel_rfl)) rfl
                    rw [Q_X9_ (hon 9 (by kernel_rfl))] at e19
                    have e49 : a.tmps[49]? = some (.agg #[.int .i64 t241, .int .i64 t242]) := by rw [ha]; exact putSel_on (e := (7, 49, .agg #[.int .i64 t241, .int .i64 t242])) 5 rfl rfl (hon 7 (by kernel_rfl)) rfl
                    replace ha := Aside0.mk ha
                    have BK225 := Aside0.mk Q_BK225
                    have BK230 := Aside0.mk Q_BK230
                    have BK231 := Aside0.mk Q_BK231
                    have HB := Aside0.mk Q_HB
                    have NB244_243 := Aside0.mk (Q_NB244_243 (hon 8 (by kernel_rfl)) (hon 9 (by kernel_rfl)))
                    have NB243_244 := Aside0.mk (Q_NB243_244 (hon 8 (by kernel_rfl)) (hon 9 (by kernel_rfl)))
                    have GW243 := Aside0.mk (Q_GW243 (hon 8 (by kernel_rfl)))
                    have GE243 := Aside0.mk (Q_GE243 (hon 8 (by kernel_rfl)))
                    have NB225_243 := Aside0.mk (Q_NB225_243 (hon 8 (by kernel_rfl)))
                    have NB243_225 := Aside0.mk (Q_NB243_225 (hon 8 (by kernel_rfl)))
                    have NB230_243 := Aside0.mk (Q_NB230_243 (hon 8 (by kernel_rfl)))
                    have NB243_230 := Aside0.mk (Q_NB243_230 (hon 8 (by kernel_rfl)))
                    have NB231_243 := Aside0.mk (Q_NB231_243 (hon 8 (by kernel_rfl)))
                    have NB243_231 := Aside0.mk (Q_NB243_231 (hon 8 (by kernel_rfl)))
                    have BK244 := Aside0.mk (Q_BK244 (hon 9 (by kernel_rfl)) hb_)
                    have GW244 := Aside0.mk (Q_GW244 (hon 9 (by kernel_rfl)))
                    have GE244 := Aside0.mk (Q_GE244 (hon 9 (by kernel_rfl)))
                    have NB225_244 := Aside0.mk (Q_NB225_244 (hon 9 (by kernel_rfl)))
                    have NB244_225 := Aside0.mk (Q_NB244_225 (hon 9 (by kernel_rfl)))
                    have NB230_244 := Aside0.mk (Q_NB230_244 (hon 9 (by kernel_rfl)))
                    have NB244_230 := Aside0.mk (Q_NB244_230 (hon 9 (by kernel_rfl)))
                    have NB231_244 := Aside0.mk (Q_NB231_244 (hon 9 (by kernel_rfl)))
                    have NB244_231 := Aside0.mk (Q_NB244_231 (hon 9 (by kernel_rfl)))
                    have BK243 := Aside0.mk (Q_BK243_e10 (hon 10 (by kernel_rfl)))
                    have hs62 : w'.cell? ⟨gb244, 0, none⟩ = some (.int .i64 0) := (blk_cell BK244.out 0).trans rfl
                    have hfs62 := blk_frozen BK244.out 0
                    have hns62_0 := NB225_244.out
                    have hns62_1 := NB230_244.out
                    have hns62_2 := NB231_244.out
                    have hns62_3 := NB243_244.out
                    have hms62_0 := NB244_225.out
                    have hms62_1 := NB244_230.out
                    have hms62_2 := NB244_231.out
                    have hms62_3 := NB244_243.out
                    have hs63 : w'.cell? ⟨gb244, 1, none⟩ = some (.int .i64 0) := (blk_cell BK244.out 1).trans rfl
                    have hfs63 := blk_frozen BK244.out 1
                    have hns63_0 := NB225_244.out
                    have hns63_1 := NB230_244.out
                    have hns63_2 := NB231_244.out
                    have hns63_3 := NB243_244.out
                    have hms63_0 := NB244_225.out
                    have hms63_1 := NB244_230.out
                    have hms63_2 := NB244_231.out
                    have hms63_3 := NB244_243.out
                    refine skip_ (w1 := ?_) (by rfl) rfl ?_ ?_
                    rotate_left
                    · go_simp
                      rfl
                    refine hK.out _ _ ⟨gb243, gb244, m8_, m9_, (by rw [ha.out]; exact putSel_none (v := undef) rfl), (by (with_reducible repeat (first | refine blk_drewN ?_ _ | refine blk_drew ?_ | refine blk_alloc ?_ _)); refine blk_far ?_ NB225_244.out _; (with_reducible repeat (first | refine blk_drewN ?_ _ | refine blk_drew ?_ | refine blk_alloc ?_ _)); refine blk_far ?_ NB225_244.out _; (with_reducible repeat (first | refine blk_drewN ?_ _ | refine blk_drew ?_ | refine blk_alloc ?_ _)); exact BK225.out), (by (with_reducible repeat (first | refine blk_drewN ?_ _ | refine blk_drew ?_ | refine blk_alloc ?_ _)); refine blk_far ?_ NB230_244.out _; (with_reducible repeat (first | refine blk_drewN ?_ _ | refine blk_drew ?_ | refine blk_alloc ?_ _)); refine blk_far ?_ NB230_244.out _; (with_reducible repeat (first | refine blk_drewN ?_ _ | refine blk_drew ?_ | refine blk_alloc ?_ _)); exact BK230.out), (by (with_reducible repeat (first | refine blk_drewN ?_ _ | refine blk_drew ?_ | refine blk_alloc ?_ _)); refine blk_far ?_ NB231_244.out _; (with_reducible repeat (first | refine blk_drewN ?_ _ | refine blk_drew ?_ | refine blk_alloc ?_ _)); refine blk_far ?_ NB231_244.out _; (with_reducible repeat (first | refine blk_drewN ?_ _ | refine blk_drew ?_ | refine blk_alloc ?_ _)); exact BK231.out), (by repeat (first | (with_reducible first | exact HB.out | apply below_alloc | apply pw_below_drewN | apply below_drew1 | refine below_set ?_ GE225.out | refine below_set ?_ GE230.out | refine below_set ?_ GE231.out | refine below_set ?_ GE243.out | refine below_set ?_ GE244.out) | exact HB.out)), fun _ _ => NB244_243.out, fun _ _ => NB243_244.out, fun _ h1_ => absurd ((hon 10 (by kernel_rfl)).symm.trans h1_) (by decide), fun _ => GW243.out, fun _ => GE243.out, fun _ => NB225_243.out, fun _ => NB243_225.out, fun _ => NB230_243.out, fun _ => NB243_230.out, fun _ => NB231_243.out, fun _ => NB243_231.out, fun _ h1_ => absurd ((up_self b 11).symm.trans h1_) (by decide), fun _ => GW244.out, fun _ => GE244.out, fun _ => NB225_244.out, fun _ => NB244_225.out, fun _ => NB230_244.out, fun _ => NB244_230.out, fun _ => NB231_244.out, fun _ => NB244_231.out, fun _ => (by (with_reducible repeat (first | refine blk_drewN ?_ _ | refine blk_drew ?_ | refine blk_alloc ?_ _)); refine blk_far ?_ NB243_244.out _; (with_reducible repeat (first | refine blk_drewN ?_ _ | refine blk_drew ?_ | refine blk_alloc ?_ _)); refine blk_far ?_ NB243_244.out _; (with_reducible repeat (first | refine blk_drewN ?_ _ | refine blk_drew ?_ | refine blk_alloc ?_ _)); exact BK243.out), fun _ => (by (with_reducible repeat (first | refine blk_drewN ?_ _ | refine blk_drew ?_ | refine blk_alloc ?_ _)); refine blk_put (cs := #[.int .i64 t241, .int .i64 0]) ?_ 1 _ rfl; (with_reducible repeat (first | refine blk_drewN ?_ _ | refine blk_drew ?_ | refine blk_alloc ?_ _)); refine blk_put (cs := #[.int .i64 0, .int .i64 0]) ?_ 0 _ rfl; (with_reducible repeat (first | refine blk_drewN ?_ _ | refine blk_drew ?_ | refine blk_alloc ?_ _)); exact BK244.out), Q_X8_, Q_X9_⟩
                  exact steps_nil
                rintro b a w63 hall ⟨gb243, gb244, m8_, m9_, ha, Q_BK225, Q_BK230, Q_BK231, Q_HB, Q_NB244_243, Q_NB243_244, Q_BK243, Q_GW243, Q_GE243, Q_NB225_243, Q_NB243_225, Q_NB230_243, Q_NB243_230, Q_NB231_243, Q_NB243_231, Q_BK244, Q_GW244, Q_GE244, Q_NB225_244, Q_NB244_225, Q_NB230_244, Q_NB244_230, Q_NB231_244, Q_NB244_231, Q_BK243_e10, Q_BK244_e11, Q_X8_, Q_X9_⟩
                clear BK225 BK230 BK231 HB
                have hb0_ := hall 0 (by kernel_rfl)
                have hb2_ := hall 2 (by kernel_rfl)
                have hb3_ := hall 3 (by kernel_rfl)
                have hb4_ := hall 4 (by kernel_rfl)
                have hb6_ := hall 6 (by kernel_rfl)
                have hb7_ := hall 7 (by kernel_rfl)
                have hb8_ := hall 8 (by kernel_rfl)
                have hb9_ := hall 9 (by kernel_rfl)
                have hb10_ := hall 10 (by kernel_rfl)
                have hb11_ := hall 11 (by kernel_rfl)
                subst ha
                obtain rfl := Q_X8_ hb8_
                obtain rfl := Q_X9_ hb9_
                simp only [putSel, hb0_, hb2_, hb3_, hb4_, hb6_, hb7_, hb8_, hb9_, hb10_, hb11_, if_true, Act.put, List.setIfInBounds_toArray, List.set_cons_zero, List.set_cons_succ]
                have BK225 := Aside0.mk Q_BK225
                clear Q_BK225
                have BK230 := Aside0.mk Q_BK230
                clear Q_BK230
                have BK231 := Aside0.mk Q_BK231
                clear Q_BK231
                have HB := Aside0.mk Q_HB
                clear Q_HB
                have NB244_243 := Aside0.mk (Q_NB244_243 hb8_ hb9_)
                clear Q_NB244_243
                have NB243_244 := Aside0.mk (Q_NB243_244 hb8_ hb9_)
                clear Q_NB243_244
                clear Q_BK243
                have GW243 := Aside0.mk (Q_GW243 hb8_)
                clear Q_GW243
                have GE243 := Aside0.mk (Q_GE243 hb8_)
                clear Q_GE243
                have NB225_243 := Aside0.mk (Q_NB225_243 hb8_)
                clear Q_NB225_243
                have NB243_225 := Aside0.mk (Q_NB243_225 hb8_)
                clear Q_NB243_225
                have NB230_243 := Aside0.mk (Q_NB230_243 hb8_)
                clear Q_NB230_243
                have NB243_230 := Aside0.mk (Q_NB243_230 hb8_)
                clear Q_NB243_230
                have NB231_243 := Aside0.mk (Q_NB231_243 hb8_)
                clear Q_NB231_243
                have NB243_231 := Aside0.mk (Q_NB243_231 hb8_)
                clear Q_NB243_231
                clear Q_BK244
                have GW244 := Aside0.mk (Q_GW244 hb9_)
                clear Q_GW244
                have GE244 := Aside0.mk (Q_GE244 hb9_)
                clear Q_GE244
                have NB225_244 := Aside0.mk (Q_NB225_244 hb9_)
                clear Q_NB225_244
                have NB244_225 := Aside0.mk (Q_NB244_225 hb9_)
                clear Q_NB244_225
                have NB230_244 := Aside0.mk (Q_NB230_244 hb9_)
                clear Q_NB230_244
                have NB244_230 := Aside0.mk (Q_NB244_230 hb9_)
                clear Q_NB244_230
                have NB231_244 := Aside0.mk (Q_NB231_244 hb9_)
                clear Q_NB231_244
                have NB244_231 := Aside0.mk (Q_NB244_231 hb9_)
                clear Q_NB244_231
                have BK243 := Aside0.mk (Q_BK243_e10 hb10_)
                clear Q_BK243_e10
                have BK244 := Aside0.mk (Q_BK244_e11 hb11_)
                clear Q_BK244_e11
                clear hall hb0_ hb2_ hb3_ hb4_ hb6_ hb7_ hb8_ hb9_ hb10_ hb11_
                try go_wp2
                have n0_ := Aside0.mk (blk_drew BK225.out)
                have n1_ := Aside0.mk (blk_drew BK230.out)
                have n2_ := Aside0.mk (blk_drew BK231.out)
                have n3_ := Aside0.mk (blk_drew BK243.out)
                have n4_ := Aside0.mk (blk_drew BK244.out)
                have n5_ := Aside0.mk (below_drew1 HB.out)
                clear BK225
                clear BK230
                clear BK231
                clear BK243
                clear BK244
                clear HB
                have BK225 := n0_
                have BK230 := n1_
                have BK231 := n2_
                have BK243 := n3_
                have BK244 := n4_
                have HB := n5_
                clear n0_ n1_ n2_ n3_ n4_ n5_
                refine start_ (n := 28) (S := fun w' => w'.cell? ⟨gb243, 0, none⟩ = some (.int .i64 t238) ∧ w'.cell? ⟨gb243, 1, none⟩ = some (.int .i64 t239) ∧ w'.cell? ⟨gb230, 0, none⟩ = some (.int .i64 t226) ∧ w'.cell? ⟨gb230, 1, none⟩ = some (.int .i64 t227) ∧ w'.cell? ⟨gb231, 0, none⟩ = some (.int .i64 t228) ∧ w'.cell? ⟨gb231, 1, none⟩ = some (.int .i64 t229) ∧ w'.cell? ⟨gb244, 0, none⟩ = some (.int .i64 t241) ∧ w'.cell? ⟨gb244, 1, none⟩ = some (.int .i64 t242)) (ds := []) #[false, false, false, false, false, false, false, false, false, false, false, false, false, false, false, false, false, false, false, false, false, false, false, false, false, false, false, false] (by kernel_rfl) rfl rfl ⟨(blk_cell BK243.out 0).trans rfl, (blk_cell BK243.out 1).trans rfl, (blk_cell BK230.out 0).trans rfl, (blk_cell BK230.out 1).trans rfl, (blk_cell BK231.out 0).trans rfl, (blk_cell BK231.out 1).trans rfl, (blk_cell BK244.out 0).trans rfl, (blk_cell BK244.out 1).trans rfl⟩ (fun hHeld => ?_); refine with_tabW timeboundlaw08_CongruenceNarrows.tab6 timeboundlaw08_CongruenceNarrows.bits6 (fun HT_ HW_ => ?_)
                generalize w63.drew = w64 at BK225 BK230 BK231 BK243 BK244 HB hHeld ⊢
                refine take_ (i := 0) (N := some 50) (v := ?_) (a' := ?_) #[true, false, false, false, false, false, false, false, false, false, false, false, false, false, false, false, false, false, false, false, false, false, false, false, false, false, false, false] rfl rfl (take_ofW HT_.out HW_.out (by kernel_rfl)) (fun _ _ _ h => h) (Or.inl ⟨by rfl, ?_⟩) hHeld ?_ ?_
                rotate_left
                · rintro w' ⟨s0, s1, s2, s3, s4, s5, s6, s7⟩
                  go_simp
                  with_reducible rfl
                rotate_left
                · simp only [Act.put, List.setIfInBounds_toArray, List.set_cons_zero, List.set_cons_succ, i64_w, i32_w]
                  rfl
                refine take_ (i := 1) (N := some 51) (v := ?_) (a' := ?_) #[true, true, false, false, false, false, false, false, false, false, false, false, false, false, false, false, false, false, false, false, false, false, false, false, false, false, false, false] rfl rfl (take_ofW HT_.out HW_.out (by kernel_rfl)) (fun _ _ _ h => h) (Or.inl ⟨by rfl, ?_⟩) hHeld ?_ ?_
                rotate_left
                · rintro w' ⟨s0, s1, s2, s3, s4, s5, s6, s7⟩
                  go_simp
                  with_reducible rfl
                rotate_left
                · simp only [Act.put, List.setIfInBounds_toArray, List.set_cons_zero, List.set_cons_succ, i64_w, i32_w]
                  rfl
                refine one_ (i := 2) (N := some 52) #[true, true, true, false, false, false, false, false, false, false, false, false, false, false, false, false, false, false, false, false, false, false, false, false, false, false, false, false] rfl rfl (one_of HT_.out (by kernel_rfl)) (by decide) (fun K hK => ?_)
                refine goes_ Tryd.func17 (by kernel_rfl) rfl #[.agg #[.int .i64 t238, .int .i64 t239], .agg #[.int .i64 t226, .int .i64 t227]] (by rfl) rfl rfl (by (try simp only [List.map_toArray, List.map_cons, List.map_nil]); first | done | rfl | (simp only [List.length_drop, List.length_take]; rfl)) ?_
                with_reducible refine (congruence_Leq.calls kj9 t238 t239 t226 t227 true _ A37.out).mono ?_
                rintro e w65 ⟨rfl, hb⟩
                refine ⟨_, rfl, ?_⟩
                have n0_ := Aside0.mk (blk_below (g := gb225) (o := .cells #[.int .u8 a3_0, .int .u8 a3_1] 22 (0, 0)) (by (with_reducible repeat (first | refine blk_drewN ?_ _ | refine blk_drew ?_ | refine blk_alloc ?_ _)); exact BK225.out) hb)
                have n1_ := Aside0.mk (blk_below (g := gb230) (o := .cells #[.int .i64 t226, .int .i64 t227] 25 (0, 0)) (by (with_reducible repeat (first | refine blk_drewN ?_ _ | refine blk_drew ?_ | refine blk_alloc ?_ _)); exact BK230.out) hb)
                have n2_ := Aside0.mk (blk_below (g := gb231) (o := .cells #[.int .i64 t228, .int .i64 t229] 25 (0, 0)) (by (with_reducible repeat (first | refine blk_drewN ?_ _ | refine blk_drew ?_ | refine blk_alloc ?_ _)); exact BK231.out) hb)
                have n3_ := Aside0.mk (blk_below (g := gb243) (o := .cells #[.int .i64 t238, .int .i64 t239] 25 (0, 0)) (by (with_reducible repeat (first | refine blk_drewN ?_ _ | refine blk_drew ?_ | refine blk_alloc ?_ _)); exact BK243.out) hb)
                have n4_ := Aside0.mk (blk_below (g := gb244) (o := .cells #[.int .i64 t241, .int .i64 t242] 25 (0, 0)) (by (with_reducible repeat (first | refine blk_drewN ?_ _ | refine blk_drew ?_ | refine blk_alloc ?_ _)); exact BK244.out) hb)
                have n5_ := Aside0.mk (below_step (by repeat (first | (with_reducible first | exact HB.out | apply below_alloc | apply pw_below_drewN | apply below_drew1 | refine below_set ?_ GE225.out | refine below_set ?_ GE230.out | refine below_set ?_ GE231.out | refine below_set ?_ GE243.out | refine below_set ?_ GE244.out) | exact HB.out)) hb)
                clear BK225
                clear BK230
                clear BK231
                clear BK243
                clear BK244
                clear HB
                have BK225 := n0_
                have BK230 := n1_
                have BK231 := n2_
                have BK243 := n3_
                have BK244 := n4_
                have HB := n5_
                clear n0_ n1_ n2_ n3_ n4_ n5_
                (try clear hb)
                (try clear hb2)
                (try clear hk)
                (try clear hi)
                refine hK.out _ _ ⟨(blk_cell BK243.out 0).trans rfl, (blk_cell BK243.out 1).trans rfl, (blk_cell BK230.out 0).trans rfl, (blk_cell BK230.out 1).trans rfl, (blk_cell BK231.out 0).trans rfl, (blk_cell BK231.out 1).trans rfl, (blk_cell BK244.out 0).trans rfl, (blk_cell BK244.out 1).trans rfl⟩ (fun hHeld => ?_)
                clear hK K
                refine norm_ (a' := ?_) ?_ ?_
                rotate_left
                · show Act.put _ (some 52) _ = _
                  simp only [Act.put, List.setIfInBounds_toArray, List.set_cons_zero, List.set_cons_succ, i64_w, i32_w]
                  rfl
                refine pure_ (i := 3) (N := some 53) (v := ?_) (a' := ?_) #[true, true, true, true, false, false, false, false, false, false, false, false, false, false, false, false, false, false, false, false, false, false, false, false, false, false, false, false] rfl rfl (any_of HT_.out (by kernel_rfl)) (fun _ _ _ h => h) (Or.inl ⟨by rfl, ?_⟩) ?_ ?_
                rotate_left
                · intro w'
                  go_simp
                  with_reducible rfl
                rotate_left
                · simp only [Act.put, List.setIfInBounds_toArray, List.set_cons_zero, List.set_cons_succ, i64_w, i32_w]
                  rfl
                refine pure_ (i := 4) (N := some 54) (v := ?_) (a' := ?_) #[true, true, true, true, true, false, false, false, false, false, false, false, false, false, false, false, false, false, false, false, false, false, false, false, false, false, false, false] rfl rfl (any_of HT_.out (by kernel_rfl)) (fun _ _ _ h => h) (Or.inl ⟨by rfl, ?_⟩) ?_ ?_
                rotate_left
                · intro w'
                  go_simp
                  with_reducible rfl
                rotate_left
                · simp only [Act.put, List.setIfInBounds_toArray, List.set_cons_zero, List.set_cons_succ, i64_w, i32_w]
                  rfl
                refine pure_ (i := 5) (N := some 55) (v := ?_) (a' := ?_) #[true, true, true, true, true, true, false, false, false, false, false, false, false, false, false, false, false, false, false, false, false, false, false, false, false, false, false, false] rfl rfl (any_of HT_.out (by kernel_rfl)) (fun _ _ _ h => h) (Or.inl ⟨by rfl, ?_⟩) ?_ ?_
                rotate_left
                · intro w'
                  go_simp
                  with_reducible rfl
                rotate_left
                · simp only [Act.put, List.setIfInBounds_toArray, List.set_cons_zero, List.set_cons_succ, i64_w, i32_w]
                  rfl
                refine pure_ (i := 9) (N := some 59) (v := ?_) (a' := ?_) #[true, true, true, true, true, true, false, false, false, true, false, false, false, false, false, false, false, false, false, false, false, false, false, false, false, false, false, false] rfl rfl (any_of HT_.out (by kernel_rfl)) (fun _ _ _ h => h) (Or.inl ⟨by rfl, ?_⟩) ?_ ?_
                rotate_left
                · intro w'
                  go_simp
                  with_reducible rfl
                rotate_left
                · simp only [Act.put, List.setIfInBounds_toArray, List.set_cons_zero, List.set_cons_succ, i64_w, i32_w]
                  rfl
                refine take_ (i := 6) (N := some 56) (v := ?_) (a' := ?_) #[true, true, true, true, true, true, true, false, false, true, false, false, false, false, false, false, false, false, false, false, false, false, false, false, false, false, false, false] rfl rfl (take_ofW HT_.out HW_.out (by kernel_rfl)) (fun _ _ _ h => h) (Or.inl ⟨by rfl, ?_⟩) hHeld ?_ ?_
                rotate_left
                · rintro w' ⟨s0, s1, s2, s3, s4, s5, s6, s7⟩
                  go_simp
                  with_reducible rfl
                rotate_left
                · simp only [Act.put, List.setIfInBounds_toArray, List.set_cons_zero, List.set_cons_succ, i64_w, i32_w]
                  rfl
                refine take_ (i := 7) (N := some 57) (v := ?_) (a' := ?_) #[true, true, true, true, true, true, true, true, false, true, false, false, false, false, false, false, false, false, false, false, false, false, false, false, false, false, false, false] rfl rfl (take_ofW HT_.out HW_.out (by kernel_rfl)) (fun _ _ _ h => h) (Or.inl ⟨by rfl, ?_⟩) hHeld ?_ ?_
                rotate_left
                · rintro w' ⟨s0, s1, s2, s3, s4, s5, s6, s7⟩
                  go_simp
                  with_reducible rfl
                rotate_left
                · simp only [Act.put, List.setIfInBounds_toArray, List.set_cons_zero, List.set_cons_succ, i64_w, i32_w]
                  rfl
                refine take_ (i := 10) (N := some 60) (v := ?_) (a' := ?_) #[true, true, true, true, true, true, true, true, false, true, true, false, false, false, false, false, false, false, false, false, false, false, false, false, false, false, false, false] rfl rfl (take_ofW HT_.out HW_.out (by kernel_rfl)) (fun _ _ _ h => h) (Or.inl ⟨by rfl, ?_⟩) hHeld ?_ ?_
                rotate_left
                · rintro w' ⟨s0, s1, s2, s3, s4, s5, s6, s7⟩
                  go_simp
                  with_reducible rfl
                rotate_left
                · simp only [Act.put, List.setIfInBounds_toArray, List.set_cons_zero, List.set_cons_succ, i64_w, i32_w]
                  rfl
                refine take_ (i := 11) (N := some 61) (v := ?_) (a' := ?_) #[true, true, true, true, true, true, true, true, false, true, true, true, false, false, false, false, false, false, false, false, false, false, false, false, false, false, false, false] rfl rfl (take_ofW HT_.out HW_.out (by kernel_rfl)) (fun _ _ _ h => h) (Or.inl ⟨by rfl, ?_⟩) hHeld ?_ ?_
                rotate_left
                · rintro w' ⟨s0, s1, s2, s3, s4, s5, s6, s7⟩
                  go_simp
                  with_reducible rfl
                rotate_left
                · simp only [Act.put, List.setIfInBounds_toArray, List.set_cons_zero, List.set_cons_succ, i64_w, i32_w]
                  rfl
                refine one_ (i := 8) (N := some 58) #[true, true, true, true, true, true, true, true, true, true, true, true, false, false, false, false, false, false, false, false, false, false, false, false, false, false, false, false] rfl rfl (one_of HT_.out (by kernel_rfl)) (by decide) (fun K hK => ?_)
                refine goes_ Tryd.func10 (by kernel_rfl) rfl #[.int .i64 (wrap64 (1 + (Int.tmod (wrap64 (a0)) 14))), .agg #[.int .i64 t238, .int .i64 t239], .agg #[.int .i64 t228, .int .i64 t229]] (by rfl) rfl rfl (by (try simp only [List.map_toArray, List.map_cons, List.map_nil]); first | done | rfl | (simp only [List.length_drop, List.length_take]; rfl)) ?_
                with_reducible refine (congruence_Do.calls kj9 (wrap64 (1 + (Int.tmod (wrap64 (a0)) 14))) t238 t239 t228 t229 t246 t247 _ A39.out (Go.Proofs.YtaphfmbloappkaaDoor.TabOK.below hT.out (by repeat (first | (with_reducible first | exact HB.out | apply below_alloc | apply pw_below_drewN | apply below_drew1 | refine below_set ?_ GE225.out | refine below_set ?_ GE230.out | refine below_set ?_ GE231.out | refine below_set ?_ GE243.out | refine below_set ?_ GE244.out) | exact HB.out)))).mono ?_
                rintro e w66 ⟨rfl, hb⟩
                refine ⟨_, rfl, ?_⟩
                have n0_ := Aside0.mk (blk_below (g := gb225) (o := .cells #[.int .u8 a3_0, .int .u8 a3_1] 22 (0, 0)) (by (with_reducible repeat (first | refine blk_drewN ?_ _ | refine blk_drew ?_ | refine blk_alloc ?_ _)); exact BK225.out) hb)
                have n1_ := Aside0.mk (blk_below (g := gb230) (o := .cells #[.int .i64 t226, .int .i64 t227] 25 (0, 0)) (by (with_reducible repeat (first | refine blk_drewN ?_ _ | refine blk_drew ?_ | refine blk_alloc ?_ _)); exact BK230.out) hb)
                have n2_ := Aside0.mk (blk_below (g := gb231) (o := .cells #[.int .i64 t228, .int .i64 t229] 25 (0, 0)) (by (with_reducible repeat (first | refine blk_drewN ?_ _ | refine blk_drew ?_ | refine blk_alloc ?_ _)); exact BK231.out) hb)
                have n3_ := Aside0.mk (blk_below (g := gb243) (o := .cells #[.int .i64 t238, .int .i64 t239] 25 (0, 0)) (by (with_reducible repeat (first | refine blk_drewN ?_ _ | refine blk_drew ?_ | refine blk_alloc ?_ _)); exact BK243.out) hb)
                have n4_ := Aside0.mk (blk_below (g := gb244) (o := .cells #[.int .i64 t241, .int .i64 t242] 25 (0, 0)) (by (with_reducible repeat (first | refine blk_drewN ?_ _ | refine blk_drew ?_ | refine blk_alloc ?_ _)); exact BK244.out) hb)
                have n5_ := Aside0.mk (below_step (by repeat (first | (with_reducible first | exact HB.out | apply below_alloc | apply pw_below_drewN | apply below_drew1 | refine below_set ?_ GE225.out | refine below_set ?_ GE230.out | refine below_set ?_ GE231.out | refine below_set ?_ GE243.out | refine below_set ?_ GE244.out) | exact HB.out)) hb)
                clear BK225
                clear BK230
                clear BK231
                clear BK243
                clear BK244
                clear HB
                have BK225 := n0_
                have BK230 := n1_
                have BK231 := n2_
                have BK243 := n3_
                have BK244 := n4_
                have HB := n5_
                clear n0_ n1_ n2_ n3_ n4_ n5_
                (try clear hb)
                (try clear hb2)
                (try clear hk)
                (try clear hi)
                refine hK.out _ _ ⟨(blk_cell BK243.out 0).trans rfl, (blk_cell BK243.out 1).trans rfl, (blk_cell BK230.out 0).trans rfl, (blk_cell BK230.out 1).trans rfl, (blk_cell BK231.out 0).trans rfl, (blk_cell BK231.out 1).trans rfl, (blk_cell BK244.out 0).trans rfl, (blk_cell BK244.out 1).trans rfl⟩ (fun hHeld => ?_)
                clear hK K
                refine norm_ (a' := ?_) ?_ ?_
                rotate_left
                · show Act.put _ (some 58) _ = _
                  simp only [Act.put, List.setIfInBounds_toArray, List.set_cons_zero, List.set_cons_succ, i64_w, i32_w]
                  rfl
                refine one_ (i := 12) (N := some 62) #[true, true, true, true, true, true, true, true, true, true, true, true, true, false, false, false, false, false, false, false, false, false, false, false, false, false, false, false] rfl rfl (one_of HT_.out (by kernel_rfl)) (by decide) (fun K hK => ?_)
                refine goes_ Tryd.func10 (by kernel_rfl) rfl #[.int .i64 (wrap64 (1 + (Int.tmod (wrap64 (a0)) 14))), .agg #[.int .i64 t226, .int .i64 t227], .agg #[.int .i64 t228, .int .i64 t229]] (by rfl) rfl rfl (by (try simp only [List.map_toArray, List.map_cons, List.map_nil]); first | done | rfl | (simp only [List.length_drop, List.length_take]; rfl)) ?_
                with_reducible refine (congruence_Do.calls kj9 (wrap64 (1 + (Int.tmod (wrap64 (a0)) 14))) t226 t227 t228 t229 t248 t249 _ A40.out (Go.Proofs.YtaphfmbloappkaaDoor.TabOK.below hT.out (by repeat (first | (with_reducible first | exact HB.out | apply below_alloc | apply pw_below_drewN | apply below_drew1 | refine below_set ?_ GE225.out | refine below_set ?_ GE230.out | refine below_set ?_ GE231.out | refine below_set ?_ GE243.out | refine below_set ?_ GE244.out) | exact HB.out)))).mono ?_
                rintro e w67 ⟨rfl, hb⟩
                refine ⟨_, rfl, ?_⟩
                have n0_ := Aside0.mk (blk_below (g := gb225) (o := .cells #[.int .u8 a3_0, .int .u8 a3_1] 22 (0, 0)) (by (with_reducible repeat (first | refine blk_drewN ?_ _ | refine blk_drew ?_ | refine blk_alloc ?_ _)); exact BK225.out) hb)
                have n1_ := Aside0.mk (blk_below (g := gb230) (o := .cells #[.int .i64 t226, .int .i64 t227] 25 (0, 0)) (by (with_reducible repeat (first | refine blk_drewN ?_ _ | refine blk_drew ?_ | refine blk_alloc ?_ _)); exact BK230.out) hb)
                have n2_ := Aside0.mk (blk_below (g := gb231) (o := .cells #[.int .i64 t228, .int .i64 t229] 25 (0, 0)) (by (with_reducible repeat (first | refine blk_drewN ?_ _ | refine blk_drew ?_ | refine blk_alloc ?_ _)); exact BK231.out) hb)
                have n3_ := Aside0.mk (blk_below (g := gb243) (o := .cells #[.int .i64 t238, .int .i64 t239] 25 (0, 0)) (by (with_reducible repeat (first | refine blk_drewN ?_ _ | refine blk_drew ?_ | refine blk_alloc ?_ _)); exact BK243.out) hb)
                have n4_ := Aside0.mk (blk_below (g := gb244) (o := .cells #[.int .i64 t241, .int .i64 t242] 25 (0, 0)) (by (with_reducible repeat (first | refine blk_drewN ?_ _ | refine blk_drew ?_ | refine blk_alloc ?_ _)); exact BK244.out) hb)
                have n5_ := Aside0.mk (below_step (by repeat (first | (with_reducible first | exact HB.out | apply below_alloc | apply pw_below_drewN | apply below_drew1 | refine below_set ?_ GE225.out | refine below_set ?_ GE230.out | refine below_set ?_ GE231.out | refine below_set ?_ GE243.out | refine below_set ?_ GE244.out) | exact HB.out)) hb)
                clear BK225
                clear BK230
                clear BK231
                clear BK243
                clear BK244
                clear HB
                have BK225 := n0_
                have BK230 := n1_
                have BK231 := n2_
                have BK243 := n3_
                have BK244 := n4_
                have HB := n5_
                clear n0_ n1_ n2_ n3_ n4_ n5_
                (try clear hb)
                (try clear hb2)
                (try clear hk)
                (try clear hi)
                refine hK.out _ _ ⟨(blk_cell BK243.out 0).trans rfl, (blk_cell BK243.out 1).trans rfl, (blk_cell BK230.out 0).trans rfl, (blk_cell BK230.out 1).trans rfl, (blk_cell BK231.out 0).trans rfl, (blk_cell BK231.out 1).trans rfl, (blk_cell BK244.out 0).trans rfl, (blk_cell BK244.out 1).trans rfl⟩ (fun hHeld => ?_)
                clear hK K
                refine norm_ (a' := ?_) ?_ ?_
                rotate_left
                · show Act.put _ (some 62) _ = _
                  simp only [Act.put, List.setIfInBounds_toArray, List.set_cons_zero, List.set_cons_succ, i64_w, i32_w]
                  rfl
                refine one_ (i := 13) (N := some 63) #[true, true, true, true, true, true, true, true, true, true, true, true, true, true, false, false, false, false, false, false, false, false, false, false, false, false, false, false] rfl rfl (one_of HT_.out (by kernel_rfl)) (by decide) (fun K hK => ?_)
                refine goes_ Tryd.func17 (by kernel_rfl) rfl #[.agg #[.int .i64 t246, .int .i64 t247], .agg #[.int .i64 t248, .int .i64 t249]] (by rfl) rfl rfl (by (try simp only [List.map_toArray, List.map_cons, List.map_nil]); first | done | rfl | (simp only [List.length_drop, List.length_take]; rfl)) ?_
                with_reducible refine (congruence_Leq.calls kj9 t246 t247 t248 t249 true _ A41.out).mono ?_
                rintro e w68 ⟨rfl, hb⟩
                refine ⟨_, rfl, ?_⟩
                have n0_ := Aside0.mk (blk_below (g := gb225) (o := .cells #[.int .u8 a3_0, .int .u8 a3_1] 22 (0, 0)) (by (with_reducible repeat (first | refine blk_drewN ?_ _ | refine blk_drew ?_ | refine blk_alloc ?_ _)); exact BK225.out) hb)
                have n1_ := Aside0.mk (blk_below (g := gb230) (o := .cells #[.int .i64 t226, .int .i64 t227] 25 (0, 0)) (by (with_reducible repeat (first | refine blk_drewN ?_ _ | refine blk_drew ?_ | refine blk_alloc ?_ _)); exact BK230.out) hb)
                have n2_ := Aside0.mk (blk_below (g := gb231) (o := .cells #[.int .i64 t228, .int .i64 t229] 25 (0, 0)) (by (with_reducible repeat (first | refine blk_drewN ?_ _ | refine blk_drew ?_ | refine blk_alloc ?_ _)); exact BK231.out) hb)
                have n3_ := Aside0.mk (blk_below (g := gb243) (o := .cells #[.int .i64 t238, .int .i64 t239] 25 (0, 0)) (by (with_reducible repeat (first | refine blk_drewN ?_ _ | refine blk_drew ?_ | refine blk_alloc ?_ _)); exact BK243.out) hb)
                have n4_ := Aside0.mk (blk_below (g := gb244) (o := .cells #[.int .i64 t241, .int .i64 t242] 25 (0, 0)) (by (with_reducible repeat (first | refine blk_drewN ?_ _ | refine blk_drew ?_ | refine blk_alloc ?_ _)); exact BK244.out) hb)
                have n5_ := Aside0.mk (below_step (by repeat (first | (with_reducible first | exact HB.out | apply below_alloc | apply pw_below_drewN | apply below_drew1 | refine below_set ?_ GE225.out | refine below_set ?_ GE230.out | refine below_set ?_ GE231.out | refine below_set ?_ GE243.out | refine below_set ?_ GE244.out) | exact HB.out)) hb)
                clear BK225
                clear BK230
                clear BK231
                clear BK243
                clear BK244
                clear HB
                have BK225 := n0_
                have BK230 := n1_
                have BK231 := n2_
                have BK243 := n3_
                have BK244 := n4_
                have HB := n5_
                clear n0_ n1_ n2_ n3_ n4_ n5_
                (try clear hb)
                (try clear hb2)
                (try clear hk)
                (try clear hi)
                refine hK.out _ _ ⟨(blk_cell BK243.out 0).trans rfl, (blk_cell BK243.out 1).trans rfl, (blk_cell BK230.out 0).trans rfl, (blk_cell BK230.out 1).trans rfl, (blk_cell BK231.out 0).trans rfl, (blk_cell BK231.out 1).trans rfl, (blk_cell BK244.out 0).trans rfl, (blk_cell BK244.out 1).trans rfl⟩ (fun hHeld => ?_)
                clear hK K
                refine norm_ (a' := ?_) ?_ ?_
                rotate_left
                · show Act.put _ (some 63) _ = _
                  simp only [Act.put, List.setIfInBounds_toArray, List.set_cons_zero, List.set_cons_succ, i64_w, i32_w]
                  rfl
                refine pure_ (i := 14) (N := some 64) (v := ?_) (a' := ?_) #[true, true, true, true, true, true, true, true, true, true, true, true, true, true, true, false, false, false, false, false, false, false, false, false, false, false, false, false] rfl rfl (any_of HT_.out (by kernel_rfl)) (fun _ _ _ h => h) (Or.inl ⟨by rfl, ?_⟩) ?_ ?_
                rotate_left
                · intro w'
                  go_simp
                  with_reducible rfl
                rotate_left
                · simp only [Act.put, List.setIfInBounds_toArray, List.set_cons_zero, List.set_cons_succ, i64_w, i32_w]
                  rfl
                refine pure_ (i := 15) (N := some 65) (v := ?_) (a' := ?_) #[true, true, true, true, true, true, true, true, true, true, true, true, true, true, true, true, false, false, false, false, false, false, false, false, false, false, false, false] rfl rfl (any_of HT_.out (by kernel_rfl)) (fun _ _ _ h => h) (Or.inl ⟨by rfl, ?_⟩) ?_ ?_
                rotate_left
                · intro w'
                  go_simp
                  with_reducible rfl
                rotate_left
                · simp only [Act.put, List.setIfInBounds_toArray, List.set_cons_zero, List.set_cons_succ, i64_w, i32_w]
                  rfl
                refine pure_ (i := 16) (N := some 66) (v := ?_) (a' := ?_) #[true, true, true, true, true, true, true, true, true, true, true, true, true, true, true, true, true, false, false, false, false, false, false, false, false, false, false, false] rfl rfl (any_of HT_.out (by kernel_rfl)) (fun _ _ _ h => h) (Or.inl ⟨by rfl, ?_⟩) ?_ ?_
                rotate_left
                · intro w'
                  go_simp
                  with_reducible rfl
                rotate_left
                · simp only [Act.put, List.setIfInBounds_toArray, List.set_cons_zero, List.set_cons_succ, i64_w, i32_w]
                  rfl
                refine pure_ (i := 17) (N := some 67) (v := ?_) (a' := ?_) #[true, true, true, true, true, true, true, true, true, true, true, true, true, true, true, true, true, true, false, false, false, false, false, false, false, false, false, false] rfl rfl (any_of HT_.out (by kernel_rfl)) (fun _ _ _ h => h) (Or.inl ⟨by rfl, ?_⟩) ?_ ?_
                rotate_left
                · intro w'
                  go_simp
                  with_reducible rfl
                rotate_left
                · simp only [Act.put, List.setIfInBounds_toArray, List.set_cons_zero, List.set_cons_succ, i64_w, i32_w]
                  rfl
                refine pure_ (i := 21) (N := some 71) (v := ?_) (a' := ?_) #[true, true, true, true, true, true, true, true, true, true, true, true, true, true, true, true, true, true, false, false, false, true, false, false, false, false, false, false] rfl rfl (any_of HT_.out (by kernel_rfl)) (fun _ _ _ h => h) (Or.inl ⟨by rfl, ?_⟩) ?_ ?_
                rotate_left
                · intro w'
                  go_simp
                  with_reducible rfl
                rotate_left
                · simp only [Act.put, List.setIfInBounds_toArray, List.set_cons_zero, List.set_cons_succ, i64_w, i32_w]
                  rfl
                refine take_ (i := 18) (N := some 68) (v := ?_) (a' := ?_) #[true, true, true, true, true, true, true, true, true, true, true, true, true, true, true, true, true, true, true, false, false, true, false, false, false, false, false, false] rfl rfl (take_ofW HT_.out HW_.out (by kernel_rfl)) (fun _ _ _ h => h) (Or.inl ⟨by rfl, ?_⟩) hHeld ?_ ?_
                rotate_left
                · rintro w' ⟨s0, s1, s2, s3, s4, s5, s6, s7⟩
                  go_simp
                  with_reducible rfl
                rotate_left
                · simp only [Act.put, List.setIfInBounds_toArray, List.set_cons_zero, List.set_cons_succ, i64_w, i32_w]
                  rfl
                refine take_ (i := 19) (N := some 69) (v := ?_) (a' := ?_) #[true, true, true, true, true, true, true, true, true, true, true, true, true, true, true, true, true, true, true, true, false, true, false, false, false, false, false, false] rfl rfl (take_ofW HT_.out HW_.out (by kernel_rfl)) (fun _ _ _ h => h) (Or.inl ⟨by rfl, ?_⟩) hHeld ?_ ?_
                rotate_left
                · rintro w' ⟨s0, s1, s2, s3, s4, s5, s6, s7⟩
                  go_simp
                  with_reducible rfl
                rotate_left
                · simp only [Act.put, List.setIfInBounds_toArray, List.set_cons_zero, List.set_cons_succ, i64_w, i32_w]
                  rfl
                refine take_ (i := 22) (N := some 72) (v := ?_) (a' := ?_) #[true, true, true, true, true, true, true, true, true, true, true, true, true, true, true, true, true, true, true, true, false, true, true, false, false, false, false, false] rfl rfl (take_ofW HT_.out HW_.out (by kernel_rfl)) (fun _ _ _ h => h) (Or.inl ⟨by rfl, ?_⟩) hHeld ?_ ?_
                rotate_left
                · rintro w' ⟨s0, s1, s2, s3, s4, s5, s6, s7⟩
                  go_simp
                  with_reducible rfl
                rotate_left
                · simp only [Act.put, List.setIfInBounds_toArray, List.set_cons_zero, List.set_cons_succ, i64_w, i32_w]
                  rfl
                refine take_ (i := 23) (N := some 73) (v := ?_) (a' := ?_) #[true, true, true, true, true, true, true, true, true, true, true, true, true, true, true, true, true, true, true, true, false, true, true, true, false, false, false, false] rfl rfl (take_ofW HT_.out HW_.out (by kernel_rfl)) (fun _ _ _ h => h) (Or.inl ⟨by rfl, ?_⟩) hHeld ?_ ?_
                rotate_left
                · rintro w' ⟨s0, s1, s2, s3, s4, s5, s6, s7⟩
                  go_simp
                  with_reducible rfl
                rotate_left
                · simp only [Act.put, List.setIfInBounds_toArray, List.set_cons_zero, List.set_cons_succ, i64_w, i32_w]
                  rfl
                refine one_ (i := 20) (N := some 70) #[true, true, true, true, true, true, true, true, true, true, true, true, true, true, true, true, true, true, true, true, true, true, true, true, false, false, false, false] rfl rfl (one_of HT_.out (by kernel_rfl)) (by decide) (fun K hK => ?_)
                refine goes_ Tryd.func10 (by kernel_rfl) rfl #[.int .i64 (wrap64 (1 + (Int.tmod (wrap64 (a0)) 14))), .agg #[.int .i64 t226, .int .i64 t227], .agg #[.int .i64 t241, .int .i64 t242]] (by rfl) rfl rfl (by (try simp only [List.map_toArray, List.map_cons, List.map_nil]); first | done | rfl | (simp only [List.length_drop, List.length_take]; rfl)) ?_
                with_reducible refine (congruence_Do.calls kj9 (wrap64 (1 + (Int.tmod (wrap64 (a0)) 14))) t226 t227 t241 t242 t251 t252 _ A43.out (Go.Proofs.YtaphfmbloappkaaDoor.TabOK.below hT.out (by repeat (first | (with_reducible first | exact HB.out | apply below_alloc | apply pw_below_drewN | apply below_drew1 | refine below_set ?_ GE225.out | refine below_set ?_ GE230.out | refine below_set ?_ GE231.out | refine below_set ?_ GE243.out | refine below_set ?_ GE244.out) | exact HB.out)))).mono ?_
                rintro e w69 ⟨rfl, hb⟩
                refine ⟨_, rfl, ?_⟩
                have n0_ := Aside0.mk (blk_below (g := gb225) (o := .cells #[.int .u8 a3_0, .int .u8 a3_1] 22 (0, 0)) (by (with_reducible repeat (first | refine blk_drewN ?_ _ | refine blk_drew ?_ | refine blk_alloc ?_ _)); exact BK225.out) hb)
                have n1_ := Aside0.mk (blk_below (g := gb230) (o := .cells #[.int .i64 t226, .int .i64 t227] 25 (0, 0)) (by (with_reducible repeat (first | refine blk_drewN ?_ _ | refine blk_drew ?_ | refine blk_alloc ?_ _)); exact BK230.out) hb)
                have n2_ := Aside0.mk (blk_below (g := gb231) (o := .cells #[.int .i64 t228, .int .i64 t229] 25 (0, 0)) (by (with_reducible repeat (first | refine blk_drewN ?_ _ | refine blk_drew ?_ | refine blk_alloc ?_ _)); exact BK231.out) hb)
                have n3_ := Aside0.mk (blk_below (g := gb243) (o := .cells #[.int .i64 t238, .int .i64 t239] 25 (0, 0)) (by (with_reducible repeat (first | refine blk_drewN ?_ _ | refine blk_drew ?_ | refine blk_alloc ?_ _)); exact BK243.out) hb)
                have n4_ := Aside0.mk (blk_below (g := gb244) (o := .cells #[.int .i64 t241, .int .i64 t242] 25 (0, 0)) (by (with_reducible repeat (first | refine blk_drewN ?_ _ | refine blk_drew ?_ | refine blk_alloc ?_ _)); exact BK244.out) hb)
                have n5_ := Aside0.mk (below_step (by repeat (first | (with_reducible first | exact HB.out | apply below_alloc | apply pw_below_drewN | apply below_drew1 | refine below_set ?_ GE225.out | refine below_set ?_ GE230.out | refine below_set ?_ GE231.out | refine below_set ?_ GE243.out | refine below_set ?_ GE244.out) | exact HB.out)) hb)
                clear BK225
                clear BK230
                clear BK231
                clear BK243
                clear BK244
                clear HB
                have BK225 := n0_
                have BK230 := n1_
                have BK231 := n2_
                have BK243 := n3_
                have BK244 := n4_
                have HB := n5_
                clear n0_ n1_ n2_ n3_ n4_ n5_
                (try clear hb)
                (try clear hb2)
                (try clear hk)
                (try clear hi)
                refine hK.out _ _ ⟨(blk_cell BK243.out 0).trans rfl, (blk_cell BK243.out 1).trans rfl, (blk_cell BK230.out 0).trans rfl, (blk_cell BK230.out 1).trans rfl, (blk_cell BK231.out 0).trans rfl, (blk_cell BK231.out 1).trans rfl, (blk_cell BK244.out 0).trans rfl, (blk_cell BK244.out 1).trans rfl⟩ (fun hHeld => ?_)
                clear hK K
                refine norm_ (a' := ?_) ?_ ?_
                rotate_left
                · show Act.put _ (some 70) _ = _
                  simp only [Act.put, List.setIfInBounds_toArray, List.set_cons_zero, List.set_cons_succ, i64_w, i32_w]
                  rfl
                refine one_ (i := 24) (N := some 74) #[true, true, true, true, true, true, true, true, true, true, true, true, true, true, true, true, true, true, true, true, true, true, true, true, true, false, false, false] rfl rfl (one_of HT_.out (by kernel_rfl)) (by decide) (fun K hK => ?_)
                refine goes_ Tryd.func10 (by kernel_rfl) rfl #[.int .i64 (wrap64 (1 + (Int.tmod (wrap64 (a0)) 14))), .agg #[.int .i64 t226, .int .i64 t227], .agg #[.int .i64 t228, .int .i64 t229]] (by rfl) rfl rfl (by (try simp only [List.map_toArray, List.map_cons, List.map_nil]); first | done | rfl | (simp only [List.length_drop, List.length_take]; rfl)) ?_
                with_reducible refine (congruence_Do.calls kj9 (wrap64 (1 + (Int.tmod (wrap64 (a0)) 14))) t226 t227 t228 t229 t253 t254 _ A44.out (Go.Proofs.YtaphfmbloappkaaDoor.TabOK.below hT.out (by repeat (first | (with_reducible first | exact HB.out | apply below_alloc | apply pw_below_drewN | apply below_drew1 | refine below_set ?_ GE225.out | refine below_set ?_ GE230.out | refine below_set ?_ GE231.out | refine below_set ?_ GE243.out | refine below_set ?_ GE244.out) | exact HB.out)))).mono ?_
                rintro e w70 ⟨rfl, hb⟩
                refine ⟨_, rfl, ?_⟩
                have n0_ := Aside0.mk (blk_below (g := gb225) (o := .cells #[.int .u8 a3_0, .int .u8 a3_1] 22 (0, 0)) (by (with_reducible repeat (first | refine blk_drewN ?_ _ | refine blk_drew ?_ | refine blk_alloc ?_ _)); exact BK225.out) hb)
                have n1_ := Aside0.mk (blk_below (g := gb230) (o := .cells #[.int .i64 t226, .int .i64 t227] 25 (0, 0)) (by (with_reducible repeat (first | refine blk_drewN ?_ _ | refine blk_drew ?_ | refine blk_alloc ?_ _)); exact BK230.out) hb)
                have n2_ := Aside0.mk (blk_below (g := gb231) (o := .cells #[.int .i64 t228, .int .i64 t229] 25 (0, 0)) (by (with_reducible repeat (first | refine blk_drewN ?_ _ | refine blk_drew ?_ | refine blk_alloc ?_ _)); exact BK231.out) hb)
                have n3_ := Aside0.mk (blk_below (g := gb243) (o := .cells #[.int .i64 t238, .int .i64 t239] 25 (0, 0)) (by (with_reducible repeat (first | refine blk_drewN ?_ _ | refine blk_drew ?_ | refine blk_alloc ?_ _)); exact BK243.out) hb)
                have n4_ := Aside0.mk (blk_below (g := gb244) (o := .cells #[.int .i64 t241, .int .i64 t242] 25 (0, 0)) (by (with_reducible repeat (first | refine blk_drewN ?_ _ | refine blk_drew ?_ | refine blk_alloc ?_ _)); exact BK244.out) hb)
                have n5_ := Aside0.mk (below_step (by repeat (first | (with_reducible first | exact HB.out | apply below_alloc | apply pw_below_drewN | apply below_drew1 | refine below_set ?_ GE225.out | refine below_set ?_ GE230.out | refine below_set ?_ GE231.out | refine below_set ?_ GE243.out | refine below_set ?_ GE244.out) | exact HB.out)) hb)
                clear BK225
                clear BK230
                clear BK231
                clear BK243
                clear BK244
                clear HB
                have BK225 := n0_
                have BK230 := n1_
                have BK231 := n2_
                have BK243 := n3_
                have BK244 := n4_
                have HB := n5_
                clear n0_ n1_ n2_ n3_ n4_ n5_
                (try clear hb)
                (try clear hb2)
                (try clear hk)
                (try clear hi)
                refine hK.out _ _ ⟨(blk_cell BK243.out 0).trans rfl, (blk_cell BK243.out 1).trans rfl, (blk_cell BK230.out 0).trans rfl, (blk_cell BK230.out 1).trans rfl, (blk_cell BK231.out 0).trans rfl, (blk_cell BK231.out 1).trans rfl, (blk_cell BK244.out 0).trans rfl, (blk_cell BK244.out 1).trans rfl⟩ (fun hHeld => ?_)
                clear hK K
                refine norm_ (a' := ?_) ?_ ?_
                rotate_left
                · show Act.put _ (some 74) _ = _
                  simp only [Act.put, List.setIfInBounds_toArray, List.set_cons_zero, List.set_cons_succ, i64_w, i32_w]
                  rfl
                refine one_ (i := 25) (N := some 75) #[true, true, true, true, true, true, true, true, true, true, true, true, true, true, true, true, true, true, true, true, true, true, true, true, true, true, false, false] rfl rfl (one_of HT_.out (by kernel_rfl)) (by decide) (fun K hK => ?_)
                refine goes_ Tryd.func17 (by kernel_rfl) rfl #[.agg #[.int .i64 t251, .int .i64 t252], .agg #[.int .i64 t253, .int .i64 t254]] (by rfl) rfl rfl (by (try simp only [List.map_toArray, List.map_cons, List.map_nil]); first | done | rfl | (simp only [List.length_drop, List.length_take]; rfl)) ?_
                with_reducible refine (congruence_Leq.calls kj9 t251 t252 t253 t254 true _ A45.out).mono ?_
                rintro e w71 ⟨rfl, hb⟩
                refine ⟨_, rfl, ?_⟩
                have n0_ := Aside0.mk (blk_below (g := gb225) (o := .cells #[.int .u8 a3_0, .int .u8 a3_1] 22 (0, 0)) (by (with_reducible repeat (first | refine blk_drewN ?_ _ | refine blk_drew ?_ | refine blk_alloc ?_ _)); exact BK225.out) hb)
                have n1_ := Aside0.mk (blk_below (g := gb230) (o := .cells #[.int .i64 t226, .int .i64 t227] 25 (0, 0)) (by (with_reducible repeat (first | refine blk_drewN ?_ _ | refine blk_drew ?_ | refine blk_alloc ?_ _)); exact BK230.out) hb)
                have n2_ := Aside0.mk (blk_below (g := gb231) (o := .cells #[.int .i64 t228, .int .i64 t229] 25 (0, 0)) (by (with_reducible repeat (first | refine blk_drewN ?_ _ | refine blk_drew ?_ | refine blk_alloc ?_ _)); exact BK231.out) hb)
                have n3_ := Aside0.mk (blk_below (g := gb243) (o := .cells #[.int .i64 t238, .int .i64 t239] 25 (0, 0)) (by (with_reducible repeat (first | refine blk_drewN ?_ _ | refine blk_drew ?_ | refine blk_alloc ?_ _)); exact BK243.out) hb)
                have n4_ := Aside0.mk (blk_below (g := gb244) (o := .cells #[.int .i64 t241, .int .i64 t242] 25 (0, 0)) (by (with_reducible repeat (first | refine blk_drewN ?_ _ | refine blk_drew ?_ | refine blk_alloc ?_ _)); exact BK244.out) hb)
                have n5_ := Aside0.mk (below_step (by repeat (first | (with_reducible first | exact HB.out | apply below_alloc | apply pw_below_drewN | apply below_drew1 | refine below_set ?_ GE225.out | refine below_set ?_ GE230.out | refine below_set ?_ GE231.out | refine below_set ?_ GE243.out | refine below_set ?_ GE244.out) | exact HB.out)) hb)
                clear BK225
                clear BK230
                clear BK231
                clear BK243
                clear BK244
                clear HB
                have BK225 := n0_
                have BK230 := n1_
                have BK231 := n2_
                have BK243 := n3_
                have BK244 := n4_
                have HB := n5_
                clear n0_ n1_ n2_ n3_ n4_ n5_
                (try clear hb)
                (try clear hb2)
                (try clear hk)
                (try clear hi)
                refine hK.out _ _ ⟨(blk_cell BK243.out 0).trans rfl, (blk_cell BK243.out 1).trans rfl, (blk_cell BK230.out 0).trans rfl, (blk_cell BK230.out 1).trans rfl, (blk_cell BK231.out 0).trans rfl, (blk_cell BK231.out 1).trans rfl, (blk_cell BK244.out 0).trans rfl, (blk_cell BK244.out 1).trans rfl⟩ (fun hHeld => ?_)
                clear hK K
                refine norm_ (a' := ?_) ?_ ?_
                rotate_left
                · show Act.put _ (some 75) _ = _
                  simp only [Act.put, List.setIfInBounds_toArray, List.set_cons_zero, List.set_cons_succ, i64_w, i32_w]
                  rfl
                refine pure_ (i := 26) (N := some 76) (v := ?_) (a' := ?_) #[true, true, true, true, true, true, true, true, true, true, true, true, true, true, true, true, true, true, true, true, true, true, true, true, true, true, true, false] rfl rfl (any_of HT_.out (by kernel_rfl)) (fun _ _ _ h => h) (Or.inl ⟨by rfl, ?_⟩) ?_ ?_
                rotate_left
                · intro w'
                  go_simp
                  with_reducible rfl
                rotate_left
                · simp only [Act.put, List.setIfInBounds_toArray, List.set_cons_zero, List.set_cons_succ, i64_w, i32_w]
                  rfl
                refine pure_ (i := 27) (N := some 77) (v := ?_) (a' := ?_) #[true, true, true, true, true, true, true, true, true, true, true, true, true, true, true, true, true, true, true, true, true, true, true, true, true, true, true, true] rfl rfl (any_of HT_.out (by kernel_rfl)) (fun _ _ _ h => h) (Or.inl ⟨by rfl, ?_⟩) ?_ ?_
                rotate_left
                · intro w'
                  go_simp
                  with_reducible rfl
                rotate_left
                · simp only [Act.put, List.setIfInBounds_toArray, List.set_cons_zero, List.set_cons_succ, i64_w, i32_w]
                  rfl
                refine done_ (done_of HT_.out (by kernel_rfl)) ?_
                try go_wp2_with (first | ((with_reducible refine gate_callee (f := 16) rfl ?_); refine goesL_ (some 80) rfl rfl Tryd.func16 (by kernel_rfl) rfl #[.int .i64 (wrap64 (a6))] rfl (by (try simp only [List.map_toArray, List.map_cons, List.map_nil]); first | done | rfl | (simp only [List.length_drop, List.length_take]; rfl)) ?_; (with_reducible refine (congruence_Of.calls (wrap64 (a6)) t264 t265 _ A47.out).mono ?_); rintro e w72 ⟨rfl, hb⟩; refine ⟨_, rfl, ?_⟩; have n0_ := Aside0.mk (blk_below (g := gb225) (o := .cells #[.int .u8 a3_0, .int .u8 a3_1] 22 (0, 0)) (by (with_reducible repeat (first | refine blk_drewN ?_ _ | refine blk_drew ?_ | refine blk_alloc ?_ _)); exact BK225.out) hb); have n1_ := Aside0.mk (blk_below (g := gb230) (o := .cells #[.int .i64 t226, .int .i64 t227] 25 (0, 0)) (by (with_reducible repeat (first | refine blk_drewN ?_ _ | refine blk_drew ?_ | refine blk_alloc ?_ _)); exact BK230.out) hb); have n2_ := Aside0.mk (blk_below (g := gb231) (o := .cells #[.int .i64 t228, .int .i64 t229] 25 (0, 0)) (by (with_reducible repeat (first | refine blk_drewN ?_ _ | refine blk_drew ?_ | refine blk_alloc ?_ _)); exact BK231.out) hb); have n3_ := Aside0.mk (blk_below (g := gb243) (o := .cells #[.int .i64 t238, .int .i64 t239] 25 (0, 0)) (by (with_reducible repeat (first | refine blk_drewN ?_ _ | refine blk_drew ?_ | refine blk_alloc ?_ _)); exact BK243.out) hb); have n4_ := Aside0.mk (blk_below (g := gb244) (o := .cells #[.int .i64 t241, .int .i64 t242] 25 (0, 0)) (by (with_reducible repeat (first | refine blk_drewN ?_ _ | refine blk_drew ?_ | refine blk_alloc ?_ _)); exact BK244.out) hb); have n5_ := Aside0.mk (below_step (by repeat (first | (with_reducible first | exact HB.out | apply below_alloc | apply pw_below_drewN | apply below_drew1 | refine below_set ?_ GE225.out | refine below_set ?_ GE230.out | refine below_set ?_ GE231.out | refine below_set ?_ GE243.out | refine below_set ?_ GE244.out) | exact HB.out)) hb); clear BK225; clear BK230; clear BK231; clear BK243; clear BK244; clear HB; have BK225 := n0_; have BK230 := n1_; have BK231 := n2_; have BK243 := n3_; have BK244 := n4_; have HB := n5_; clear n0_ n1_ n2_ n3_ n4_ n5_; (try clear hb); (try clear hb2); (try clear hk); (try clear hi)) | ((with_reducible refine gate_dst (N := 20) rfl ?_); refine box_event ?hg (N := 20) ?hd (cs := #[.int .i64 0, .int .i64 0]) (t := 25) ?hr ?_; (case hd => rfl); (case hg => rfl); (case hr => first | (go_simp; done) | (go_simp; rfl)); intro gb266 hg w73 hbox hb; have n0_ := Aside0.mk (blk_below (g := gb225) (o := .cells #[.int .u8 a3_0, .int .u8 a3_1] 22 (0, 0)) (by (with_reducible repeat (first | refine blk_drewN ?_ _ | refine blk_drew ?_ | refine blk_alloc ?_ _)); exact BK225.out) hb); have n1_ := Aside0.mk (blk_below (g := gb230) (o := .cells #[.int .i64 t226, .int .i64 t227] 25 (0, 0)) (by (with_reducible repeat (first | refine blk_drewN ?_ _ | refine blk_drew ?_ | refine blk_alloc ?_ _)); exact BK230.out) hb); have n2_ := Aside0.mk (blk_below (g := gb231) (o := .cells #[.int .i64 t228, .int .i64 t229] 25 (0, 0)) (by (with_reducible repeat (first | refine blk_drewN ?_ _ | refine blk_drew ?_ | refine blk_alloc ?_ _)); exact BK231.out) hb); have n3_ := Aside0.mk (blk_below (g := gb243) (o := .cells #[.int .i64 t238, .int .i64 t239] 25 (0, 0)) (by (with_reducible repeat (first | refine blk_drewN ?_ _ | refine blk_drew ?_ | refine blk_alloc ?_ _)); exact BK243.out) hb); have n4_ := Aside0.mk (blk_below (g := gb244) (o := .cells #[.int .i64 t241, .int .i64 t242] 25 (0, 0)) (by (with_reducible repeat (first | refine blk_drewN ?_ _ | refine blk_drew ?_ | refine blk_alloc ?_ _)); exact BK244.out) hb); have n5_ := Aside0.mk (below_step (by repeat (first | (with_reducible first | exact HB.out | apply below_alloc | apply pw_below_drewN | apply below_drew1 | refine below_set ?_ GE225.out | refine below_set ?_ GE230.out | refine below_set ?_ GE231.out | refine below_set ?_ GE243.out | refine below_set ?_ GE244.out) | exact HB.out)) hb); have n6_ := Aside0.mk (hbox); have n7_ := Aside0.mk ((by rw [hg]; exact (below_size (by repeat (first | (with_reducible first | exact HB.out | apply below_alloc | apply pw_below_drewN | apply below_drew1 | refine below_set ?_ GE225.out | refine below_set ?_ GE230.out | refine below_set ?_ GE231.out | refine below_set ?_ GE243.out | refine below_set ?_ GE244.out) | exact HB.out))) : w.heap.size ≤ gb266)); have n8_ := Aside0.mk ((by rw [hg]; exact (below_size (by repeat (first | (with_reducible first | exact HB.out | apply below_alloc | apply pw_below_drewN | apply below_drew1 | refine below_set ?_ GE225.out | refine below_set ?_ GE230.out | refine below_set ?_ GE231.out | refine below_set ?_ GE243.out | refine below_set ?_ GE244.out) | exact HB.out))) : w.heap.size ≤ gb266)); have n9_ := Aside0.mk ((by rw [hg]; exact Nat.ne_of_lt (blk_lt (g := gb225) (o := .cells #[.int .u8 a3_0, .int .u8 a3_1] 22 (0, 0)) (by (with_reducible repeat (first | refine blk_drewN ?_ _ | refine blk_drew ?_ | refine blk_alloc ?_ _)); exact BK225.out)) : gb225 ≠ gb266)); have n10_ := Aside0.mk ((by rw [hg]; exact Nat.ne_of_gt (blk_lt (g := gb225) (o := .cells #[.int .u8 a3_0, .int .u8 a3_1] 22 (0, 0)) (by (with_reducible repeat (first | refine blk_drewN ?_ _ | refine blk_drew ?_ | refine blk_alloc ?_ _)); exact BK225.out)) : gb266 ≠ gb225)); have n11_ := Aside0.mk ((by rw [hg]; exact Nat.ne_of_lt (blk_lt (g := gb230) (o := .cells #[.int .i64 t226, .int .i64 t227] 25 (0, 0)) (by (with_reducible repeat (first | refine blk_drewN ?_ _ | refine blk_drew ?_ | refine blk_alloc ?_ _)); exact BK230.out)) : gb230 ≠ gb266)); have n12_ := Aside0.mk ((by rw [hg]; exact Nat.ne_of_gt (blk_lt (g := gb230) (o := .cells #[.int .i64 t226, .int .i64 t227] 25 (0, 0)) (by (with_reducible repeat (first | refine blk_drewN ?_ _ | refine blk_drew ?_ | refine blk_alloc ?_ _)); exact BK230.out)) : gb266 ≠ gb230)); have n13_ := Aside0.mk ((by rw [hg]; exact Nat.ne_of_lt (blk_lt (g := gb231) (o := .cells #[.int .i64 t228, .int .i64 t229] 25 (0, 0)) (by (with_reducible repeat (first | refine blk_drewN ?_ _ | refine blk_drew ?_ | refine blk_alloc ?_ _)); exact BK231.out)) : gb231 ≠ gb266)); have n14_ := Aside0.mk ((by rw [hg]; exact Nat.ne_of_gt (blk_lt (g := gb231) (o := .cells #[.int .i64 t228, .int .i64 t229] 25 (0, 0)) (by (with_reducible repeat (first | refine blk_drewN ?_ _ | refine blk_drew ?_ | refine blk_alloc ?_ _)); exact BK231.out)) : gb266 ≠ gb231)); have n15_ := Aside0.mk ((by rw [hg]; exact Nat.ne_of_lt (blk_lt (g := gb243) (o := .cells #[.int .i64 t238, .int .i64 t239] 25 (0, 0)) (by (with_reducible repeat (first | refine blk_drewN ?_ _ | refine blk_drew ?_ | refine blk_alloc ?_ _)); exact BK243.out)) : gb243 ≠ gb266)); have n16_ := Aside0.mk ((by rw [hg]; exact Nat.ne_of_gt (blk_lt (g := gb243) (o := .cells #[.int .i64 t238, .int .i64 t239] 25 (0, 0)) (by (with_reducible repeat (first | refine blk_drewN ?_ _ | refine blk_drew ?_ | refine blk_alloc ?_ _)); exact BK243.out)) : gb266 ≠ gb243)); have n17_ := Aside0.mk ((by rw [hg]; exact Nat.ne_of_lt (blk_lt (g := gb244) (o := .cells #[.int .i64 t241, .int .i64 t242] 25 (0, 0)) (by (with_reducible repeat (first | refine blk_drewN ?_ _ | refine blk_drew ?_ | refine blk_alloc ?_ _)); exact BK244.out)) : gb244 ≠ gb266)); have n18_ := Aside0.mk ((by rw [hg]; exact Nat.ne_of_gt (blk_lt (g := gb244) (o := .cells #[.int .i64 t241, .int .i64 t242] 25 (0, 0)) (by (with_reducible repeat (first | refine blk_drewN ?_ _ | refine blk_drew ?_ | refine blk_alloc ?_ _)); exact BK244.out)) : gb266 ≠ gb244)); clear BK225; clear BK230; clear BK231; clear BK243; clear BK244; clear HB; have BK225 := n0_; have BK230 := n1_; have BK231 := n2_; have BK243 := n3_; have BK244 := n4_; have HB := n5_; have BK266 := n6_; have GW266 := n7_; have GE266 := n8_; have NB225_266 := n9_; have NB266_225 := n10_; have NB230_266 := n11_; have NB266_230 := n12_; have NB231_266 := n13_; have NB266_231 := n14_; have NB243_266 := n15_; have NB266_243 := n16_; have NB244_266 := n17_; have NB266_244 := n18_; clear n0_ n1_ n2_ n3_ n4_ n5_ n6_ n7_ n8_ n9_ n10_ n11_ n12_ n13_ n14_ n15_ n16_ n17_ n18_; clear hb hbox hg; have hnb74 := NB266_225.out; have hnc74 := NB225_266.out; have hnb75 := NB266_230.out; have hnc75 := NB230_266.out; have hnb76 := NB266_231.out; have hnc76 := NB231_266.out; have hnb77 := NB266_243.out; have hnc77 := NB243_266.out; have hnb78 := NB266_244.out; have hnc78 := NB244_266.out; have hcz79_0 : w73.cell? ⟨gb266, 0, none⟩ = some (.int .i64 0) := (blk_cell BK266.out 0).trans rfl; have hcz79_1 : w73.cell? ⟨gb266, 1, none⟩ = some (.int .i64 0) := (blk_cell BK266.out 1).trans rfl; have hfz79_0 := blk_frozen BK266.out 0; have hfz79_1 := blk_frozen BK266.out 1))
                have n0_ : Aside0 (((w73.setCell ⟨gb266, 0, none⟩ (.int .i64 t264)).setCell ⟨gb266, 1, none⟩ (.int .i64 t265)).heap[gb225]? = some (.cells #[.int .u8 a3_0, .int .u8 a3_1] 22 (0, 0))) := ⟨by (with_reducible repeat (first | refine blk_drewN ?_ _ | refine blk_drew ?_ | refine blk_alloc ?_ _)); refine blk_far ?_ NB225_266.out _; (with_reducible repeat (first | refine blk_drewN ?_ _ | refine blk_drew ?_ | refine blk_alloc ?_ _)); refine blk_far ?_ NB225_266.out _; (with_reducible repeat (first | refine blk_drewN ?_ _ | refine blk_drew ?_ | refine blk_alloc ?_ _)); exact BK225.out⟩
                have n1_ : Aside0 (((w73.setCell ⟨gb266, 0, none⟩ (.int .i64 t264)).setCell ⟨gb266, 1, none⟩ (.int .i64 t265)).heap[gb230]? = some (.cells #[.int .i64 t226, .int .i64 t227] 25 (0, 0))) := ⟨by (with_reducible repeat (first | refine blk_drewN ?_ _ | refine blk_drew ?_ | refine blk_alloc ?_ _)); refine blk_far ?_ NB230_266.out _; (with_reducible repeat (first | refine blk_drewN ?_ _ | refine blk_drew ?_ | refine blk_alloc ?_ _)); refine blk_far ?_ NB230_266.out _; (with_reducible repeat (first | refine blk_drewN ?_ _ | refine blk_drew ?_ | refine blk_alloc ?_ _)); exact BK230.out⟩
                have n2_ : Aside0 (((w73.setCell ⟨gb266, 0, none⟩ (.int .i64 t264)).setCell ⟨gb266, 1, none⟩ (.int .i64 t265)).heap[gb231]? = some (.cells #[.int .i64 t228, .int .i64 t229] 25 (0, 0))) := ⟨by (with_reducible repeat (first | refine blk_drewN ?_ _ | refine blk_drew ?_ | refine blk_alloc ?_ _)); refine blk_far ?_ NB231_266.out _; (with_reducible repeat (first | refine blk_drewN ?_ _ | refine blk_drew ?_ | refine blk_alloc ?_ _)); refine blk_far ?_ NB231_266.out _; (with_reducible repeat (first | refine blk_drewN ?_ _ | refine blk_drew ?_ | refine blk_alloc ?_ _)); exact BK231.out⟩
                have n3_ : Aside0 (((w73.setCell ⟨gb266, 0, none⟩ (.int .i64 t264)).setCell ⟨gb266, 1, none⟩ (.int .i64 t265)).heap[gb243]? = some (.cells #[.int .i64 t238, .int .i64 t239] 25 (0, 0))) := ⟨by (with_reducible repeat (first | refine blk_drewN ?_ _ | refine blk_drew ?_ | refine blk_alloc ?_ _)); refine blk_far ?_ NB243_266.out _; (with_reducible repeat (first | refine blk_drewN ?_ _ | refine blk_drew ?_ | refine blk_alloc ?_ _)); refine blk_far ?_ NB243_266.out _; (with_reducible repeat (first | refine blk_drewN ?_ _ | refine blk_drew ?_ | refine blk_alloc ?_ _)); exact BK243.out⟩
                have n4_ : Aside0 (((w73.setCell ⟨gb266, 0, none⟩ (.int .i64 t264)).setCell ⟨gb266, 1, none⟩ (.int .i64 t265)).heap[gb244]? = some (.cells #[.int .i64 t241, .int .i64 t242] 25 (0, 0))) := ⟨by (with_reducible repeat (first | refine blk_drewN ?_ _ | refine blk_drew ?_ | refine blk_alloc ?_ _)); refine blk_far ?_ NB244_266.out _; (with_reducible repeat (first | refine blk_drewN ?_ _ | refine blk_drew ?_ | refine blk_alloc ?_ _)); refine blk_far ?_ NB244_266.out _; (with_reducible repeat (first | refine blk_drewN ?_ _ | refine blk_drew ?_ | refine blk_alloc ?_ _)); exact BK244.out⟩
                have n5_ : Aside0 (((w73.setCell ⟨gb266, 0, none⟩ (.int .i64 t264)).setCell ⟨gb266, 1, none⟩ (.int .i64 t265)).heap[gb266]? = some (.cells #[.int .i64 t264, .int .i64 t265] 25 (0, 0))) := ⟨by (with_reducible repeat (first | refine blk_drewN ?_ _ | refine blk_drew ?_ | refine blk_alloc ?_ _)); refine blk_put (cs := #[.int .i64 t264, .int .i64 0]) ?_ 1 _ rfl; (with_reducible repeat (first | refine blk_drewN ?_ _ | refine blk_drew ?_ | refine blk_alloc ?_ _)); refine blk_put (cs := #[.int .i64 0, .int .i64 0]) ?_ 0 _ rfl; (with_reducible repeat (first | refine blk_drewN ?_ _ | refine blk_drew ?_ | refine blk_alloc ?_ _)); exact BK266.out⟩
                have n6_ : Aside0 (Below w.heap.size w ((w73.setCell ⟨gb266, 0, none⟩ (.int .i64 t264)).setCell ⟨gb266, 1, none⟩ (.int .i64 t265))) := ⟨by repeat (first | (with_reducible first | exact HB.out | apply below_alloc | apply pw_below_drewN | apply below_drew1 | refine below_set ?_ GE225.out | refine below_set ?_ GE230.out | refine below_set ?_ GE231.out | refine below_set ?_ GE243.out | refine below_set ?_ GE244.out | refine below_set ?_ GE266.out) | exact HB.out)⟩
                (try clear BK225)
                (try clear BK230)
                (try clear BK231)
                (try clear BK243)
                (try clear BK244)
                (try clear BK266)
                (try clear HB)
                generalize ((w73.setCell ⟨gb266, 0, none⟩ (.int .i64 t264)).setCell ⟨gb266, 1, none⟩ (.int .i64 t265)) = w80 at n0_ n1_ n2_ n3_ n4_ n5_ n6_ ⊢
                have BK225 := n0_
                have BK230 := n1_
                have BK231 := n2_
                have BK243 := n3_
                have BK244 := n4_
                have BK266 := n5_
                have HB := n6_
                clear n0_ n1_ n2_ n3_ n4_ n5_ n6_
                have n0_ := Aside0.mk (blk_drew BK225.out)
                have n1_ := Aside0.mk (blk_drew BK230.out)
                have n2_ := Aside0.mk (blk_drew BK231.out)
                have n3_ := Aside0.mk (blk_drew BK243.out)
                have n4_ := Aside0.mk (blk_drew BK244.out)
                have n5_ := Aside0.mk (blk_drew BK266.out)
                have n6_ := Aside0.mk (below_drew1 HB.out)
                clear BK225
                clear BK230
                clear BK231
                clear BK243
                clear BK244
                clear BK266
                clear HB
                have BK225 := n0_
                have BK230 := n1_
                have BK231 := n2_
                have BK243 := n3_
                have BK244 := n4_
                have BK266 := n5_
                have HB := n6_
                clear n0_ n1_ n2_ n3_ n4_ n5_ n6_
                refine start_ (n := 11) (S := fun w' => w'.cell? ⟨gb230, 0, none⟩ = some (.int .i64 t226) ∧ w'.cell? ⟨gb230, 1, none⟩ = some (.int .i64 t227) ∧ w'.cell? ⟨gb266, 0, none⟩ = some (.int .i64 t264) ∧ w'.cell? ⟨gb266, 1, none⟩ = some (.int .i64 t265)) (ds := []) #[false, false, false, false, false, false, false, false, false, false, false] (by kernel_rfl) rfl rfl ⟨(blk_cell BK230.out 0).trans rfl, (blk_cell BK230.out 1).trans rfl, (blk_cell BK266.out 0).trans rfl, (blk_cell BK266.out 1).trans rfl⟩ (fun hHeld => ?_); refine with_tabW timeboundlaw08_CongruenceNarrows.tab9 timeboundlaw08_CongruenceNarrows.bits9 (fun HT_ HW_ => ?_)
                generalize w80.drew = w81 at BK225 BK230 BK231 BK243 BK244 BK266 HB hHeld ⊢
                refine take_ (i := 0) (N := some 81) (v := ?_) (a' := ?_) #[true, false, false, false, false, false, false, false, false, false, false] rfl rfl (take_ofW HT_.out HW_.out (by kernel_rfl)) (fun _ _ _ h => h) (Or.inl ⟨by rfl, ?_⟩) hHeld ?_ ?_
                rotate_left
                · rintro w' ⟨s0, s1, s2, s3⟩
                  go_simp
                  with_reducible rfl
                rotate_left
                · simp only [Act.put, List.setIfInBounds_toArray, List.set_cons_zero, List.set_cons_succ, i64_w, i32_w]
                  rfl
                refine take_ (i := 1) (N := some 82) (v := ?_) (a' := ?_) #[true, true, false, false, false, false, false, false, false, false, false] rfl rfl (take_ofW HT_.out HW_.out (by kernel_rfl)) (fun _ _ _ h => h) (Or.inl ⟨by rfl, ?_⟩) hHeld ?_ ?_
                rotate_left
                · rintro w' ⟨s0, s1, s2, s3⟩
                  go_simp
                  with_reducible rfl
                rotate_left
                · simp only [Act.put, List.setIfInBounds_toArray, List.set_cons_zero, List.set_cons_succ, i64_w, i32_w]
                  rfl
                refine take_ (i := 3) (N := some 84) (v := ?_) (a' := ?_) #[true, true, false, true, false, false, false, false, false, false, false] rfl rfl (take_ofW HT_.out HW_.out (by kernel_rfl)) (fun _ _ _ h => h) (Or.inl ⟨by rfl, ?_⟩) hHeld ?_ ?_
                rotate_left
                · rintro w' ⟨s0, s1, s2, s3⟩
                  go_simp
                  with_reducible rfl
                rotate_left
                · simp only [Act.put, List.setIfInBounds_toArray, List.set_cons_zero, List.set_cons_succ, i64_w, i32_w]
                  rfl
                refine take_ (i := 5) (N := some 86) (v := ?_) (a' := ?_) #[true, true, false, true, false, true, false, false, false, false, false] rfl rfl (take_ofW HT_.out HW_.out (by kernel_rfl)) (fun _ _ _ h => h) (Or.inl ⟨by rfl, ?_⟩) hHeld ?_ ?_
                rotate_left
                · rintro w' ⟨s0, s1, s2, s3⟩
                  go_simp
                  with_reducible rfl
                rotate_left
                · simp only [Act.put, List.setIfInBounds_toArray, List.set_cons_zero, List.set_cons_succ, i64_w, i32_w]
                  rfl
                refine one_ (i := 2) (N := some 83) #[true, true, true, true, false, true, false, false, false, false, false] rfl rfl (one_of HT_.out (by kernel_rfl)) (by decide) (fun K hK => ?_)
                refine goes_ Tryd.func10 (by kernel_rfl) rfl #[.int .i64 1, .agg #[.int .i64 t226, .int .i64 t227], .agg #[.int .i64 t264, .int .i64 t265]] (by rfl) rfl rfl (by (try simp only [List.map_toArray, List.map_cons, List.map_nil]); first | done | rfl | (simp only [List.length_drop, List.length_take]; rfl)) ?_
                with_reducible refine (congruence_Do.calls kj9 1 t226 t227 t264 t265 t267 t268 _ A48.out (Go.Proofs.YtaphfmbloappkaaDoor.TabOK.below hT.out (by repeat (first | (with_reducible first | exact HB.out | apply below_alloc | apply pw_below_drewN | apply below_drew1 | refine below_set ?_ GE225.out | refine below_set ?_ GE230.out | refine below_set ?_ GE231.out | refine below_set ?_ GE243.out | refine below_set ?_ GE244.out | refine below_set ?_ GE266.out) | exact HB.out)))).mono ?_
                rintro e w82 ⟨rfl, hb⟩
                refine ⟨_, rfl, ?_⟩
                have n0_ := Aside0.mk (blk_below (g := gb225) (o := .cells #[.int .u8 a3_0, .int .u8 a3_1] 22 (0, 0)) (by (with_reducible repeat (first | refine blk_drewN ?_ _ | refine blk_drew ?_ | refine blk_alloc ?_ _)); exact BK225.out) hb)
                have n1_ := Aside0.mk (blk_below (g := gb230) (o := .cells #[.int .i64 t226, .int .i64 t227] 25 (0, 0)) (by (with_reducible repeat (first | refine blk_drewN ?_ _ | refine blk_drew ?_ | refine blk_alloc ?_ _)); exact BK230.out) hb)
                have n2_ := Aside0.mk (blk_below (g := gb231) (o := .cells #[.int .i64 t228, .int .i64 t229] 25 (0, 0)) (by (with_reducible repeat (first | refine blk_drewN ?_ _ | refine blk_drew ?_ | refine blk_alloc ?_ _)); exact BK231.out) hb)
                have n3_ := Aside0.mk (blk_below (g := gb243) (o := .cells #[.int .i64 t238, .int .i64 t239] 25 (0, 0)) (by (with_reducible repeat (first | refine blk_drewN ?_ _ | refine blk_drew ?_ | refine blk_alloc ?_ _)); exact BK243.out) hb)
                have n4_ := Aside0.mk (blk_below (g := gb244) (o := .cells #[.int .i64 t241, .int .i64 t242] 25 (0, 0)) (by (with_reducible repeat (first | refine blk_drewN ?_ _ | refine blk_drew ?_ | refine blk_alloc ?_ _)); exact BK244.out) hb)
                have n5_ := Aside0.mk (blk_below (g := gb266) (o := .cells #[.int .i64 t264, .int .i64 t265] 25 (0, 0)) (by (with_reducible repeat (first | refine blk_drewN ?_ _ | refine blk_drew ?_ | refine blk_alloc ?_ _)); exact BK266.out) hb)
                have n6_ := Aside0.mk (below_step (by repeat (first | (with_reducible first | exact HB.out | apply below_alloc | apply pw_below_drewN | apply below_drew1 | refine below_set ?_ GE225.out | refine below_set ?_ GE230.out | refine below_set ?_ GE231.out | refine below_set ?_ GE243.out | refine below_set ?_ GE244.out | refine below_set ?_ GE266.out) | exact HB.out)) hb)
                clear BK225
                clear BK230
                clear BK231
                clear BK243
                clear BK244
                clear BK266
                clear HB
                have BK225 := n0_
                have BK230 := n1_
                have BK231 := n2_
                have BK243 := n3_
                have BK244 := n4_
                have BK266 := n5_
                have HB := n6_
                clear n0_ n1_ n2_ n3_ n4_ n5_ n6_
                (try clear hb)
                (try clear hb2)
                (try clear hk)
                (try clear hi)
                refine hK.out _ _ ⟨(blk_cell BK230.out 0).trans rfl, (blk_cell BK230.out 1).trans rfl, (blk_cell BK266.out 0).trans rfl, (blk_cell BK266.out 1).trans rfl⟩ (fun hHeld => ?_)
                clear hK K
                refine norm_ (a' := ?_) ?_ ?_
                rotate_left
                · show Act.put _ (some 83) _ = _
                  simp only [Act.put, List.setIfInBounds_toArray, List.set_cons_zero, List.set_cons_succ, i64_w, i32_w]
                  rfl
                refine one_ (i := 4) (N := some 85) #[true, true, true, true, true, true, false, false, false, false, false] rfl rfl (one_of HT_.out (by kernel_rfl)) (by decide) (fun K hK => ?_)
                refine goes_ Tryd.func10 (by kernel_rfl) rfl #[.int .i64 2, .agg #[.int .i64 t267, .int .i64 t268], .agg #[.int .i64 t264, .int .i64 t265]] (by rfl) rfl rfl (by (try simp only [List.map_toArray, List.map_cons, List.map_nil]); first | done | rfl | (simp only [List.length_drop, List.length_take]; rfl)) ?_
                with_reducible refine (congruence_Do.calls kj9 2 t267 t268 t264 t265 t269 t270 _ A49.out (Go.Proofs.YtaphfmbloappkaaDoor.TabOK.below hT.out (by repeat (first | (with_reducible first | exact HB.out | apply below_alloc | apply pw_below_drewN | apply below_drew1 | refine below_set ?_ GE225.out | refine below_set ?_ GE230.out | refine below_set ?_ GE231.out | refine below_set ?_ GE243.out | refine below_set ?_ GE244.out | refine below_set ?_ GE266.out) | exact HB.out)))).mono ?_
                rintro e w83 ⟨rfl, hb⟩
                refine ⟨_, rfl, ?_⟩
                have n0_ := Aside0.mk (blk_below (g := gb225) (o := .cells #[.int .u8 a3_0, .int .u8 a3_1] 22 (0, 0)) (by (with_reducible repeat (first | refine blk_drewN ?_ _ | refine blk_drew ?_ | refine blk_alloc ?_ _)); exact BK225.out) hb)
                have n1_ := Aside0.mk (blk_below (g := gb230) (o := .cells #[.int .i64 t226, .int .i64 t227] 25 (0, 0)) (by (with_reducible repeat (first | refine blk_drewN ?_ _ | refine blk_drew ?_ | refine blk_alloc ?_ _)); exact BK230.out) hb)
                have n2_ := Aside0.mk (blk_below (g := gb231) (o := .cells #[.int .i64 t228, .int .i64 t229] 25 (0, 0)) (by (with_reducible repeat (first | refine blk_drewN ?_ _ | refine blk_drew ?_ | refine blk_alloc ?_ _)); exact BK231.out) hb)
                have n3_ := Aside0.mk (blk_below (g := gb243) (o := .cells #[.int .i64 t238, .int .i64 t239] 25 (0, 0)) (by (with_reducible repeat (first | refine blk_drewN ?_ _ | refine blk_drew ?_ | refine blk_alloc ?_ _)); exact BK243.out) hb)
                have n4_ := Aside0.mk (blk_below (g := gb244) (o := .cells #[.int .i64 t241, .int .i64 t242] 25 (0, 0)) (by (with_reducible repeat (first | refine blk_drewN ?_ _ | refine blk_drew ?_ | refine blk_alloc ?_ _)); exact BK244.out) hb)
                have n5_ := Aside0.mk (blk_below (g := gb266) (o := .cells #[.int .i64 t264, .int .i64 t265] 25 (0, 0)) (by (with_reducible repeat (first | refine blk_drewN ?_ _ | refine blk_drew ?_ | refine blk_alloc ?_ _)); exact BK266.out) hb)
                have n6_ := Aside0.mk (below_step (by repeat (first | (with_reducible first | exact HB.out | apply below_alloc | apply pw_below_drewN | apply below_drew1 | refine below_set ?_ GE225.out | refine below_set ?_ GE230.out | refine below_set ?_ GE231.out | refine below_set ?_ GE243.out | refine below_set ?_ GE244.out | refine below_set ?_ GE266.out) | exact HB.out)) hb)
                clear BK225
                clear BK230
                clear BK231
                clear BK243
                clear BK244
                clear BK266
                clear HB
                have BK225 := n0_
                have BK230 := n1_
                have BK231 := n2_
                have BK243 := n3_
                have BK244 := n4_
                have BK266 := n5_
                have HB := n6_
                clear n0_ n1_ n2_ n3_ n4_ n5_ n6_
                (try clear hb)
                (try clear hb2)
                (try clear hk)
                (try clear hi)
                refine hK.out _ _ ⟨(blk_cell BK230.out 0).trans rfl, (blk_cell BK230.out 1).trans rfl, (blk_cell BK266.out 0).trans rfl, (blk_cell BK266.out 1).trans rfl⟩ (fun hHeld => ?_)
                clear hK K
                refine norm_ (a' := ?_) ?_ ?_
                rotate_left
                · show Act.put _ (some 85) _ = _
                  simp only [Act.put, List.setIfInBounds_toArray, List.set_cons_zero, List.set_cons_succ, i64_w, i32_w]
                  rfl
                refine pure_ (i := 6) (N := some 87) (v := ?_) (a' := ?_) #[true, true, true, true, true, true, true, false, false, false, false] rfl rfl (any_of HT_.out (by kernel_rfl)) (fun _ _ _ h => h) (Or.inl ⟨by rfl, ?_⟩) ?_ ?_
                rotate_left
                · intro w'
                  go_simp
                  with_reducible rfl
                rotate_left
                · simp only [Act.put, List.setIfInBounds_toArray, List.set_cons_zero, List.set_cons_succ, i64_w, i32_w]
                  rfl
                refine pure_ (i := 7) (N := some 88) (v := ?_) (a' := ?_) #[true, true, true, true, true, true, true, true, false, false, false] rfl rfl (any_of HT_.out (by kernel_rfl)) (fun _ _ _ h => h) (Or.inl ⟨by rfl, ?_⟩) ?_ ?_
                rotate_left
                · intro w'
                  go_simp
                  with_reducible rfl
                rotate_left
                · simp only [Act.put, List.setIfInBounds_toArray, List.set_cons_zero, List.set_cons_succ, i64_w, i32_w]
                  rfl
                refine one_ (i := 8) (N := some 89) #[true, true, true, true, true, true, true, true, true, false, false] rfl rfl (one_of HT_.out (by kernel_rfl)) (by decide) (fun K hK => ?_)
                refine goes_ Tryd.func11 (by kernel_rfl) rfl #[] (by rfl) rfl rfl (by (try simp only [List.map_toArray, List.map_cons, List.map_nil]); first | done | rfl | (simp only [List.length_drop, List.length_take]; rfl)) ?_
                with_reducible refine (timeboundlaw08_awake.calls kj9  t271 _ A51.out (Go.Proofs.YtaphfmbloappkaaDoor.TabOK.below hT.out (by repeat (first | (with_reducible first | exact HB.out | apply below_alloc | apply pw_below_drewN | apply below_drew1 | refine below_set ?_ GE225.out | refine below_set ?_ GE230.out | refine below_set ?_ GE231.out | refine below_set ?_ GE243.out | refine below_set ?_ GE244.out | refine below_set ?_ GE266.out) | exact HB.out)))).mono ?_
                rintro e w84 ⟨rfl, hb⟩
                refine ⟨_, rfl, ?_⟩
                have n0_ := Aside0.mk (blk_below (g := gb225) (o := .cells #[.int .u8 a3_0, .int .u8 a3_1] 22 (0, 0)) (by (with_reducible repeat (first | refine blk_drewN ?_ _ | refine blk_drew ?_ | refine blk_alloc ?_ _)); exact BK225.out) hb)
                have n1_ := Aside0.mk (blk_below (g := gb230) (o := .cells #[.int .i64 t226, .int .i64 t227] 25 (0, 0)) (by (with_reducible repeat (first | refine blk_drewN ?_ _ | refine blk_drew ?_ | refine blk_alloc ?_ _)); exact BK230.out) hb)
                have n2_ := Aside0.mk (blk_below (g := gb231) (o := .cells #[.int .i64 t228, .int .i64 t229] 25 (0, 0)) (by (with_reducible repeat (first | refine blk_drewN ?_ _ | refine blk_drew ?_ | refine blk_alloc ?_ _)); exact BK231.out) hb)
                have n3_ := Aside0.mk (blk_below (g := gb243) (o := .cells #[.int .i64 t238, .int .i64 t239] 25 (0, 0)) (by (with_reducible repeat (first | refine blk_drewN ?_ _ | refine blk_drew ?_ | refine blk_alloc ?_ _)); exact BK243.out) hb)
                have n4_ := Aside0.mk (blk_below (g := gb244) (o := .cells #[.int .i64 t241, .int .i64 t242] 25 (0, 0)) (by (with_reducible repeat (first | refine blk_drewN ?_ _ | refine blk_drew ?_ | refine blk_alloc ?_ _)); exact BK244.out) hb)
                have n5_ := Aside0.mk (blk_below (g := gb266) (o := .cells #[.int .i64 t264, .int .i64 t265] 25 (0, 0)) (by (with_reducible repeat (first | refine blk_drewN ?_ _ | refine blk_drew ?_ | refine blk_alloc ?_ _)); exact BK266.out) hb)
                have n6_ := Aside0.mk (below_step (by repeat (first | (with_reducible first | exact HB.out | apply below_alloc | apply pw_below_drewN | apply below_drew1 | refine below_set ?_ GE225.out | refine below_set ?_ GE230.out | refine below_set ?_ GE231.out | refine below_set ?_ GE243.out | refine below_set ?_ GE244.out | refine below_set ?_ GE266.out) | exact HB.out)) hb)
                clear BK225
                clear BK230
                clear BK231
                clear BK243
                clear BK244
                clear BK266
                clear HB
                have BK225 := n0_
                have BK230 := n1_
                have BK231 := n2_
                have BK243 := n3_
                have BK244 := n4_
                have BK266 := n5_
                have HB := n6_
                clear n0_ n1_ n2_ n3_ n4_ n5_ n6_
                (try clear hb)
                (try clear hb2)
                (try clear hk)
                (try clear hi)
                refine hK.out _ _ ⟨(blk_cell BK230.out 0).trans rfl, (blk_cell BK230.out 1).trans rfl, (blk_cell BK266.out 0).trans rfl, (blk_cell BK266.out 1).trans rfl⟩ (fun hHeld => ?_)
                clear hK K
                refine norm_ (a' := ?_) ?_ ?_
                rotate_left
                · show Act.put _ (some 89) _ = _
                  simp only [Act.put, List.setIfInBounds_toArray, List.set_cons_zero, List.set_cons_succ, i64_w, i32_w]
                  rfl
                refine pure_ (i := 9) (N := some 90) (v := ?_) (a' := ?_) #[true, true, true, true, true, true, true, true, true, true, false] rfl rfl (any_of HT_.out (by kernel_rfl)) (fun _ _ _ h => h) (Or.inl ⟨by rfl, ?_⟩) ?_ ?_
                rotate_left
                · intro w'
                  go_simp
                  with_reducible rfl
                rotate_left
                · simp only [Act.put, List.setIfInBounds_toArray, List.set_cons_zero, List.set_cons_succ, i64_w, i32_w]
                  rfl
                refine pure_ (i := 10) (N := some 14) (v := ?_) (a' := ?_) #[true, true, true, true, true, true, true, true, true, true, true] rfl rfl (any_of HT_.out (by kernel_rfl)) (fun _ _ _ h => h) (Or.inl ⟨by rfl, ?_⟩) ?_ ?_
                rotate_left
                · intro w'
                  go_simp
                  with_reducible rfl
                rotate_left
                · simp only [Act.put, List.setIfInBounds_toArray, List.set_cons_zero, List.set_cons_succ, i64_w, i32_w]
                  rfl
                refine done_ (done_of HT_.out (by kernel_rfl)) ?_
                try go_wp2
                go_ret
                exact ⟨by first | rfl | (simp [errW_none, errW_some] <;> rfl) | (simp [*, errW_none, errW_some] <;> rfl), by repeat (first | (with_reducible first | exact HB.out | apply below_alloc | apply pw_below_drewN | apply below_drew1 | refine below_set ?_ GE225.out | refine below_set ?_ GE230.out | refine below_set ?_ GE231.out | refine below_set ?_ GE243.out | refine below_set ?_ GE244.out | refine below_set ?_ GE266.out) | exact HB.out)⟩
              · rw [if_neg c50] at H
                exact absurd H (by simp)
            · replace c46 := Bool.eq_false_iff.mpr c46
              subst c46
              have H1 : (none) = some r := by rw [if_neg (show ¬ (false = true) by decide)] at H; exact H
              clear H
              have H := H1
              clear H1
              exact absurd H (by simp)
          · replace c42 := Bool.eq_false_iff.mpr c42
            subst c42
            have H1 : (none) = some r := by rw [if_neg (show ¬ (false = true) by decide)] at H; exact H
            clear H
            have H := H1
            clear H1
            exact absurd H (by simp)
        · replace c38 := Bool.eq_false_iff.mpr c38
          subst c38
          have H1 : (none) = some r := by rw [if_neg (show ¬ (false = true) by decide)] at H; exact H
          clear H
          have H := H1
          clear H1
          exact absurd H (by simp)

end Go.Proofs.YtaphfmbloappkaaDoorG.PAll
