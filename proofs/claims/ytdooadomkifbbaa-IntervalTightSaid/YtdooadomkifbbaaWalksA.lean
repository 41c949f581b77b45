/-
  The walks of the interval layer's small functions (All, None, Valid, Fix, and the reference's): each gives its plain function; below the heap's end the world is as it was. No condition.
-/
import Derived.Test.YtdooadomkifbbaaProg
import Derived.Test.YtdooadomkifbbaaOrd
import Derived.Test.YtdooadomkifbbaaPlain
import Derived.WalkKit
import Derived.WalkSpells
import Derived.WalkLawsBesides
import Derived.KernelRfl
import Derived.Lib.Hide
namespace Go.Proofs.Ytdooadomkifbbaa
open Go.RowKit
open Go.Proofs.YtdooadomkifbbaaW.PrintLast
set_option maxHeartbeats 1000000
set_option linter.unusedSimpArgs false
set_option linter.unusedVariables false

/-- Two structs are equal. -/
def eqI (a b c d : Int) : Bool := a == c && b == d
theorem eqA23 (d : Nat) (w : World) (x0 x1 y0 y1 : Int) : (Op.equalIn (d + 2) 23 (.agg #[.int .i64 x0, .int .i64 x1]) (.agg #[.int .i64 y0, .int .i64 y1])).run Try.prog w = .ok (eqI x0 x1 y0 y1) w := by
  have hu := Try.underlying23
  by_cases h0 : x0 = y0
  · by_cases h1 : x1 = y1
    · have e : eqI x0 x1 y0 y1 = true := by simp [eqI, h0, h1]
      have b0 : (x0 == y0) = true := by simpa using h0
      have b1 : (x1 == y1) = true := by simpa using h1
      rw [e]; clear e h0 h1
      go_simp
    · have e : eqI x0 x1 y0 y1 = false := by simp [eqI, h1]
      have b0 : (x0 == y0) = true := by simpa using h0
      have b1 : (x1 == y1) = false := by simpa using h1
      rw [e]; clear e h0
      go_simp
  · have e : eqI x0 x1 y0 y1 = false := by simp [eqI, h0]
    have b0 : (x0 == y0) = false := by simpa using h0
    rw [e]; clear e
    go_simp
attribute [local go_sem high] eqA23
theorem ret_int {k : IntKind} {a b : Int} (h : a = b) : Ending.returned (.int k a) = .returned (.int k b) := by rw [h]
theorem ret_bool {a b : Bool} (h : a = b) : Ending.returned (.bool a) = .returned (.bool b) := by rw [h]
theorem ret_iv {a b c d : Int} (h : (a, b) = (c, d)) : Ending.returned (.agg #[.int .i64 a, .int .i64 b]) = .returned (.agg #[.int .i64 c, .int .i64 d]) := by cases h; rfl
theorem all_any (w : World) : Calls Try.prog 10 #[] w fun e w' => e = .returned (.agg #[.int .i64 (-2147483648), .int .i64 2147483647]) ∧ Below w.heap.size w w' := by
  go_enter Try.func10, Try.ntmps10
  go_wp2
  exact bodyPost_ret (v := .agg #[.int .i64 (-2147483648), .int .i64 2147483647]) (by simp [results, Try.results10, go_sem]) rfl ⟨rfl, (Below.refl _ _).alloc (Nat.le_refl _) _⟩
theorem rall_any (w : World) : Calls Try.prog 11 #[] w fun e w' => e = .returned (.agg #[.int .i64 (-2147483648), .int .i64 2147483647]) ∧ Below w.heap.size w w' := by
  go_enter Try.func11, Try.ntmps11
  go_wp2
  exact bodyPost_ret (v := .agg #[.int .i64 (-2147483648), .int .i64 2147483647]) (by simp [results, Try.results11, go_sem]) rfl ⟨rfl, (Below.refl _ _).alloc (Nat.le_refl _) _⟩
theorem none_any (w : World) : Calls Try.prog 12 #[] w fun e w' => e = .returned (.agg #[.int .i64 1, .int .i64 0]) ∧ Below w.heap.size w w' := by
  go_enter Try.func12, Try.ntmps12
  go_wp2
  exact bodyPost_ret (v := .agg #[.int .i64 1, .int .i64 0]) (by simp [results, Try.results12, go_sem]) rfl ⟨rfl, (Below.refl _ _).alloc (Nat.le_refl _) _⟩
theorem rnone_any (w : World) : Calls Try.prog 13 #[] w fun e w' => e = .returned (.agg #[.int .i64 1, .int .i64 0]) ∧ Below w.heap.size w w' := by
  go_enter Try.func13, Try.ntmps13
  go_wp2
  exact bodyPost_ret (v := .agg #[.int .i64 1, .int .i64 0]) (by simp [results, Try.results13, go_sem]) rfl ⟨rfl, (Below.refl _ _).alloc (Nat.le_refl _) _⟩
theorem is_any (n : Int) (w : World) : Calls Try.prog 38 #[.int .i64 n] w fun e w' => e = .returned (.bool (isB n)) ∧ Below w.heap.size w w' := by
  by_cases h0 : -2147483648 ≤ n
  · by_cases h1 : n ≤ 2147483647
    · have e : isB n = true := decide_eq_true ⟨h0, h1⟩
      go_enter Try.func38, Try.ntmps38; go_wp2; go_ret; exact ⟨by first | exact ret_bool e.symm | rfl, Below.refl _ _⟩
    · have e : isB n = false := decide_eq_false (fun h => h1 h.2)
      go_enter Try.func38, Try.ntmps38; go_wp2; go_ret; exact ⟨by first | exact ret_bool e.symm | rfl, Below.refl _ _⟩
  · have e : isB n = false := decide_eq_false (fun h => h0 h.1)
    go_enter Try.func38, Try.ntmps38; go_wp2; go_ret; exact ⟨by first | exact ret_bool e.symm | rfl, Below.refl _ _⟩
theorem valid_non (w : World) : Calls Try.prog 20 #[.agg #[.int .i64 1, .int .i64 0]] w fun e w' => e = .returned (.bool true) ∧ Below w.heap.size w w' := by
  have h : eqI 1 0 1 0 = true := rfl
  go_enter Try.func20, Try.ntmps20
  go_wp2_with fail
  refine o_start (S := (fun w' => Below w.heap.size w w' ∧ IB w' (w.heap.size) (1) (0))) (ds := []) (.cons 0 1 (.cons 1 2 (.cons 2 0 (.cons 3 0 (.cons 4 0 (.cons 5 1 (.cons 6 2 (.cons 7 0 (.cons 8 0 (.cons 9 1 (.cons 10 2 (.cons 11 0 (.cons 12 0 (.cons 13 0 (.cons 14 1 (.cons 15 0 (.cons 16 1 (.cons 17 0 (.cons 18 0 (.cons 19 0 (.cons 20 0 .nil))))))))))))))))))))) (by kernel_rfl) (by kernel_rfl) (fun _ _ d _ _ h => by cases d <;> exact h) ⟨((Below.refl _ _).alloc (Nat.le_refl _) _).drew, (IB.new _ _ _).drew⟩ (fun w1 hS => ?_)
  repeat' (first
    | (refine o_off (a' := ?_) rfl rfl (by rfl) ?_ ?_; rotate_left; (focus (simp only [Act.put, List.setIfInBounds_toArray, List.set_cons_zero, List.set_cons_succ, i64_w, i32_w]; rfl)))
    | (refine o_pure (v := ?_) (a' := ?_) rfl rfl (by rfl) ?_ ?_ ?_; rotate_left 2; (focus (intro w'; go_simp; with_reducible rfl)); (focus (simp only [Act.put, List.setIfInBounds_toArray, List.set_cons_zero, List.set_cons_succ, i64_w, i32_w]; rfl)))
    | (refine o_loadoff (a' := ?_) rfl rfl (by rfl) hS ?_ ?_; rotate_left; (focus (simp only [Act.put, List.setIfInBounds_toArray, List.set_cons_zero, List.set_cons_succ, i64_w, i32_w]; rfl)))
    | (refine o_load (v := ?_) (a' := ?_) rfl rfl (by rfl) hS ?_ ?_ ?_; rotate_left 2; (focus (rintro w' ⟨_, i0⟩; have c0 := i0.c0; have d0 := i0.c1; go_simp; with_reducible rfl)); (focus (simp only [Act.put, List.setIfInBounds_toArray, List.set_cons_zero, List.set_cons_succ, i64_w, i32_w]; rfl)))
    | (refine o_one rfl ?_)
    | (refine o_fork2 rfl rfl ?_ ?_)
    | (refine s_off (a' := ?_) rfl (by rfl) hS ?_ ?_; rotate_left; (focus (simp only [Act.put, List.setIfInBounds_toArray, List.set_cons_zero, List.set_cons_succ, i64_w, i32_w]; rfl)))
    | (refine s_call (f := 12) (a' := ?_) rfl (by rfl) rfl Try.func12 (by kernel_rfl) rfl (none_any _) (by (try simp only [List.map_toArray, List.map_cons, List.map_nil]); first | done | rfl) (fun w' hb => ⟨below_call hS.1 hb, IB.below hS.2 hb⟩) ?_ ?_; rotate_left; (focus (simp only [Act.put, List.setIfInBounds_toArray, List.set_cons_zero, List.set_cons_succ, i64_w, i32_w]; rfl)); clear hS; intro w1 hb hS; clear hb)
    | (refine s_call (f := 38) (a' := ?_) rfl (by rfl) rfl Try.func38 (by kernel_rfl) rfl (is_any _ _) (by (try simp only [List.map_toArray, List.map_cons, List.map_nil]); first | done | rfl) (fun w' hb => ⟨below_call hS.1 hb, IB.below hS.2 hb⟩) ?_ ?_; rotate_left; (focus (simp only [Act.put, List.setIfInBounds_toArray, List.set_cons_zero, List.set_cons_succ, i64_w, i32_w]; rfl)); clear hS; intro w1 hb hS; clear hb))
  refine o_done ?_
  go_wp2
  go_ret
  exact ⟨by first | exact ret_bool rfl | rfl, hS.1⟩
theorem valid_1 (a b : Int) (w : World) (h : eqI a b 1 0 = false) (ha : isB a = false) : Calls Try.prog 20 #[.agg #[.int .i64 a, .int .i64 b]] w fun e w' => e = .returned (.bool false) ∧ Below w.heap.size w w' := by
  go_enter Try.func20, Try.ntmps20
  go_wp2_with fail
  refine o_start (S := (fun w' => Below w.heap.size w w' ∧ IB w' (w.heap.size) (a) (b))) (ds := []) (.cons 0 1 (.cons 1 2 (.cons 2 0 (.cons 3 0 (.cons 4 0 (.cons 5 1 (.cons 6 2 (.cons 7 0 (.cons 8 0 (.cons 9 1 (.cons 10 2 (.cons 11 0 (.cons 12 0 (.cons 13 0 (.cons 14 1 (.cons 15 0 (.cons 16 1 (.cons 17 0 (.cons 18 0 (.cons 19 0 (.cons 20 0 .nil))))))))))))))))))))) (by kernel_rfl) (by kernel_rfl) (fun _ _ d _ _ h => by cases d <;> exact h) ⟨((Below.refl _ _).alloc (Nat.le_refl _) _).drew, (IB.new _ _ _).drew⟩ (fun w1 hS => ?_)
  repeat' (first
    | (refine o_off (a' := ?_) rfl rfl (by rfl) ?_ ?_; rotate_left; (focus (simp only [Act.put, List.setIfInBounds_toArray, List.set_cons_zero, List.set_cons_succ, i64_w, i32_w]; rfl)))
    | (refine o_pure (v := ?_) (a' := ?_) rfl rfl (by rfl) ?_ ?_ ?_; rotate_left 2; (focus (intro w'; go_simp; with_reducible rfl)); (focus (simp only [Act.put, List.setIfInBounds_toArray, List.set_cons_zero, List.set_cons_succ, i64_w, i32_w]; rfl)))
    | (refine o_loadoff (a' := ?_) rfl rfl (by rfl) hS ?_ ?_; rotate_left; (focus (simp only [Act.put, List.setIfInBounds_toArray, List.set_cons_zero, List.set_cons_succ, i64_w, i32_w]; rfl)))
    | (refine o_load (v := ?_) (a' := ?_) rfl rfl (by rfl) hS ?_ ?_ ?_; rotate_left 2; (focus (rintro w' ⟨_, i0⟩; have c0 := i0.c0; have d0 := i0.c1; go_simp; with_reducible rfl)); (focus (simp only [Act.put, List.setIfInBounds_toArray, List.set_cons_zero, List.set_cons_succ, i64_w, i32_w]; rfl)))
    | (refine o_one rfl ?_)
    | (refine o_fork2 rfl rfl ?_ ?_)
    | (refine s_off (a' := ?_) rfl (by rfl) hS ?_ ?_; rotate_left; (focus (simp only [Act.put, List.setIfInBounds_toArray, List.set_cons_zero, List.set_cons_succ, i64_w, i32_w]; rfl)))
    | (refine s_call (f := 12) (a' := ?_) rfl (by rfl) rfl Try.func12 (by kernel_rfl) rfl (none_any _) (by (try simp only [List.map_toArray, List.map_cons, List.map_nil]); first | done | rfl) (fun w' hb => ⟨below_call hS.1 hb, IB.below hS.2 hb⟩) ?_ ?_; rotate_left; (focus (simp only [Act.put, List.setIfInBounds_toArray, List.set_cons_zero, List.set_cons_succ, i64_w, i32_w]; rfl)); clear hS; intro w1 hb hS; clear hb)
    | (refine s_call (f := 38) (a' := ?_) rfl (by rfl) rfl Try.func38 (by kernel_rfl) rfl (is_any _ _) (by (try simp only [List.map_toArray, List.map_cons, List.map_nil]); first | done | rfl) (fun w' hb => ⟨below_call hS.1 hb, IB.below hS.2 hb⟩) ?_ ?_; rotate_left; (focus (simp only [Act.put, List.setIfInBounds_toArray, List.set_cons_zero, List.set_cons_succ, i64_w, i32_w]; rfl)); clear hS; intro w1 hb hS; clear hb))
  refine o_done ?_
  go_wp2
  go_ret
  exact ⟨by first | exact ret_bool rfl | rfl, hS.1⟩
theorem valid_2 (a b : Int) (w : World) (h : eqI a b 1 0 = false) (ha : isB a = true) (hb : isB b = false) : Calls Try.prog 20 #[.agg #[.int .i64 a, .int .i64 b]] w fun e w' => e = .returned (.bool false) ∧ Below w.heap.size w w' := by
  go_enter Try.func20, Try.ntmps20
  go_wp2_with fail
  refine o_start (S := (fun w' => Below w.heap.size w w' ∧ IB w' (w.heap.size) (a) (b))) (ds := []) (.cons 0 1 (.cons 1 2 (.cons 2 0 (.cons 3 0 (.cons 4 0 (.cons 5 1 (.cons 6 2 (.cons 7 0 (.cons 8 0 (.cons 9 1 (.cons 10 2 (.cons 11 0 (.cons 12 0 (.cons 13 0 (.cons 14 1 (.cons 15 0 (.cons 16 1 (.cons 17 0 (.cons 18 0 (.cons 19 0 (.cons 20 0 .nil))))))))))))))))))))) (by kernel_rfl) (by kernel_rfl) (fun _ _ d _ _ h => by cases d <;> exact h) ⟨((Below.refl _ _).alloc (Nat.le_refl _) _).drew, (IB.new _ _ _).drew⟩ (fun w1 hS => ?_)
  repeat' (first
    | (refine o_off (a' := ?_) rfl rfl (by rfl) ?_ ?_; rotate_left; (focus (simp only [Act.put, List.setIfInBounds_toArray, List.set_cons_zero, List.set_cons_succ, i64_w, i32_w]; rfl)))
    | (refine o_pure (v := ?_) (a' := ?_) rfl rfl (by rfl) ?_ ?_ ?_; rotate_left 2; (focus (intro w'; go_simp; with_reducible rfl)); (focus (simp only [Act.put, List.setIfInBounds_toArray, List.set_cons_zero, List.set_cons_succ, i64_w, i32_w]; rfl)))
    | (refine o_loadoff (a' := ?_) rfl rfl (by rfl) hS ?_ ?_; rotate_left; (focus (simp only [Act.put, List.setIfInBounds_toArray, List.set_cons_zero, List.set_cons_succ, i64_w, i32_w]; rfl)))
    | (refine o_load (v := ?_) (a' := ?_) rfl rfl (by rfl) hS ?_ ?_ ?_; rotate_left 2; (focus (rintro w' ⟨_, i0⟩; have c0 := i0.c0; have d0 := i0.c1; go_simp; with_reducible rfl)); (focus (simp only [Act.put, List.setIfInBounds_toArray, List.set_cons_zero, List.set_cons_succ, i64_w, i32_w]; rfl)))
    | (refine o_one rfl ?_)
    | (refine o_fork2 rfl rfl ?_ ?_)
    | (refine s_off (a' := ?_) rfl (by rfl) hS ?_ ?_; rotate_left; (focus (simp only [Act.put, List.setIfInBounds_toArray, List.set_cons_zero, List.set_cons_succ, i64_w, i32_w]; rfl)))
    | (refine s_call (f := 12) (a' := ?_) rfl (by rfl) rfl Try.func12 (by kernel_rfl) rfl (none_any _) (by (try simp only [List.map_toArray, List.map_cons, List.map_nil]); first | done | rfl) (fun w' hb => ⟨below_call hS.1 hb, IB.below hS.2 hb⟩) ?_ ?_; rotate_left; (focus (simp only [Act.put, List.setIfInBounds_toArray, List.set_cons_zero, List.set_cons_succ, i64_w, i32_w]; rfl)); clear hS; intro w1 hb hS; clear hb)
    | (refine s_call (f := 38) (a' := ?_) rfl (by rfl) rfl Try.func38 (by kernel_rfl) rfl (is_any _ _) (by (try simp only [List.map_toArray, List.map_cons, List.map_nil]); first | done | rfl) (fun w' hb => ⟨below_call hS.1 hb, IB.below hS.2 hb⟩) ?_ ?_; rotate_left; (focus (simp only [Act.put, List.setIfInBounds_toArray, List.set_cons_zero, List.set_cons_succ, i64_w, i32_w]; rfl)); clear hS; intro w1 hb hS; clear hb))
  refine o_done ?_
  go_wp2
  go_ret
  exact ⟨by first | exact ret_bool rfl | rfl, hS.1⟩
theorem valid_3 (a b : Int) (w : World) (h : eqI a b 1 0 = false) (ha : isB a = true) (hb : isB b = true) : Calls Try.prog 20 #[.agg #[.int .i64 a, .int .i64 b]] w fun e w' => e = .returned (.bool (decide (a ≤ b))) ∧ Below w.heap.size w w' := by
  go_enter Try.func20, Try.ntmps20
  go_wp2_with fail
  refine o_start (S := (fun w' => Below w.heap.size w w' ∧ IB w' (w.heap.size) (a) (b))) (ds := []) (.cons 0 1 (.cons 1 2 (.cons 2 0 (.cons 3 0 (.cons 4 0 (.cons 5 1 (.cons 6 2 (.cons 7 0 (.cons 8 0 (.cons 9 1 (.cons 10 2 (.cons 11 0 (.cons 12 0 (.cons 13 0 (.cons 14 1 (.cons 15 0 (.cons 16 1 (.cons 17 0 (.cons 18 0 (.cons 19 0 (.cons 20 0 .nil))))))))))))))))))))) (by kernel_rfl) (by kernel_rfl) (fun _ _ d _ _ h => by cases d <;> exact h) ⟨((Below.refl _ _).alloc (Nat.le_refl _) _).drew, (IB.new _ _ _).drew⟩ (fun w1 hS => ?_)
  repeat' (first
    | (refine o_off (a' := ?_) rfl rfl (by rfl) ?_ ?_; rotate_left; (focus (simp only [Act.put, List.setIfInBounds_toArray, List.set_cons_zero, List.set_cons_succ, i64_w, i32_w]; rfl)))
    | (refine o_pure (v := ?_) (a' := ?_) rfl rfl (by rfl) ?_ ?_ ?_; rotate_left 2; (focus (intro w'; go_simp; with_reducible rfl)); (focus (simp only [Act.put, List.setIfInBounds_toArray, List.set_cons_zero, List.set_cons_succ, i64_w, i32_w]; rfl)))
    | (refine o_loadoff (a' := ?_) rfl rfl (by rfl) hS ?_ ?_; rotate_left; (focus (simp only [Act.put, List.setIfInBounds_toArray, List.set_cons_zero, List.set_cons_succ, i64_w, i32_w]; rfl)))
    | (refine o_load (v := ?_) (a' := ?_) rfl rfl (by rfl) hS ?_ ?_ ?_; rotate_left 2; (focus (rintro w' ⟨_, i0⟩; have c0 := i0.c0; have d0 := i0.c1; go_simp; with_reducible rfl)); (focus (simp only [Act.put, List.setIfInBounds_toArray, List.set_cons_zero, List.set_cons_succ, i64_w, i32_w]; rfl)))
    | (refine o_one rfl ?_)
    | (refine o_fork2 rfl rfl ?_ ?_)
    | (refine s_off (a' := ?_) rfl (by rfl) hS ?_ ?_; rotate_left; (focus (simp only [Act.put, List.setIfInBounds_toArray, List.set_cons_zero, List.set_cons_succ, i64_w, i32_w]; rfl)))
    | (refine s_call (f := 12) (a' := ?_) rfl (by rfl) rfl Try.func12 (by kernel_rfl) rfl (none_any _) (by (try simp only [List.map_toArray, List.map_cons, List.map_nil]); first | done | rfl) (fun w' hb => ⟨below_call hS.1 hb, IB.below hS.2 hb⟩) ?_ ?_; rotate_left; (focus (simp only [Act.put, List.setIfInBounds_toArray, List.set_cons_zero, List.set_cons_succ, i64_w, i32_w]; rfl)); clear hS; intro w1 hb hS; clear hb)
    | (refine s_call (f := 38) (a' := ?_) rfl (by rfl) rfl Try.func38 (by kernel_rfl) rfl (is_any _ _) (by (try simp only [List.map_toArray, List.map_cons, List.map_nil]); first | done | rfl) (fun w' hb => ⟨below_call hS.1 hb, IB.below hS.2 hb⟩) ?_ ?_; rotate_left; (focus (simp only [Act.put, List.setIfInBounds_toArray, List.set_cons_zero, List.set_cons_succ, i64_w, i32_w]; rfl)); clear hS; intro w1 hb hS; clear hb))
  refine o_done ?_
  go_wp2
  go_ret
  exact ⟨by first | exact ret_bool rfl | rfl, hS.1⟩
theorem valid_any (a b : Int) (w : World) : Calls Try.prog 20 #[.agg #[.int .i64 a, .int .i64 b]] w fun e w' => e = .returned (.bool (valB a b)) ∧ Below w.heap.size w w' := by
  unfold valB
  by_cases h : nonB a b = true
  · rw [h]
    simp only [nonB, Bool.and_eq_true, beq_iff_eq] at h
    obtain ⟨rfl, rfl⟩ := h
    exact valid_non w
  · replace h : nonB a b = false := by simpa using h
    rw [h]
    cases ha : isB a
    · exact valid_1 a b w h ha
    · cases hb : isB b
      · exact valid_2 a b w h ha hb
      · exact valid_3 a b w h ha hb
theorem rvalid_non (w : World) : Calls Try.prog 32 #[.agg #[.int .i64 1, .int .i64 0]] w fun e w' => e = .returned (.bool true) ∧ Below w.heap.size w w' := by
  have h : eqI 1 0 1 0 = true := rfl
  go_enter Try.func32, Try.ntmps32
  go_wp2_with fail
  refine o_start (S := (fun w' => Below w.heap.size w w' ∧ IB w' (w.heap.size) (1) (0))) (ds := []) (.cons 0 1 (.cons 1 2 (.cons 2 0 (.cons 3 0 (.cons 4 0 (.cons 5 1 (.cons 6 0 (.cons 7 0 (.cons 8 0 (.cons 9 1 (.cons 10 0 (.cons 11 1 (.cons 12 0 (.cons 13 0 (.cons 14 0 (.cons 15 0 (.cons 16 1 (.cons 17 0 (.cons 18 0 (.cons 19 0 (.cons 20 0 .nil))))))))))))))))))))) (by kernel_rfl) (by kernel_rfl) (fun _ _ d _ _ h => by cases d <;> exact h) ⟨((Below.refl _ _).alloc (Nat.le_refl _) _).drew, (IB.new _ _ _).drew⟩ (fun w1 hS => ?_)
  repeat' (first
    | (refine o_off (a' := ?_) rfl rfl (by rfl) ?_ ?_; rotate_left; (focus (simp only [Act.put, List.setIfInBounds_toArray, List.set_cons_zero, List.set_cons_succ, i64_w, i32_w]; rfl)))
    | (refine o_pure (v := ?_) (a' := ?_) rfl rfl (by rfl) ?_ ?_ ?_; rotate_left 2; (focus (intro w'; go_simp; with_reducible rfl)); (focus (simp only [Act.put, List.setIfInBounds_toArray, List.set_cons_zero, List.set_cons_succ, i64_w, i32_w]; rfl)))
    | (refine o_loadoff (a' := ?_) rfl rfl (by rfl) hS ?_ ?_; rotate_left; (focus (simp only [Act.put, List.setIfInBounds_toArray, List.set_cons_zero, List.set_cons_succ, i64_w, i32_w]; rfl)))
    | (refine o_load (v := ?_) (a' := ?_) rfl rfl (by rfl) hS ?_ ?_ ?_; rotate_left 2; (focus (rintro w' ⟨_, i0⟩; have c0 := i0.c0; have d0 := i0.c1; go_simp; with_reducible rfl)); (focus (simp only [Act.put, List.setIfInBounds_toArray, List.set_cons_zero, List.set_cons_succ, i64_w, i32_w]; rfl)))
    | (refine o_one rfl ?_)
    | (refine o_fork2 rfl rfl ?_ ?_)
    | (refine s_off (a' := ?_) rfl (by rfl) hS ?_ ?_; rotate_left; (focus (simp only [Act.put, List.setIfInBounds_toArray, List.set_cons_zero, List.set_cons_succ, i64_w, i32_w]; rfl)))
    | (refine s_call (f := 13) (a' := ?_) rfl (by rfl) rfl Try.func13 (by kernel_rfl) rfl (rnone_any _) (by (try simp only [List.map_toArray, List.map_cons, List.map_nil]); first | done | rfl) (fun w' hb => ⟨below_call hS.1 hb, IB.below hS.2 hb⟩) ?_ ?_; rotate_left; (focus (simp only [Act.put, List.setIfInBounds_toArray, List.set_cons_zero, List.set_cons_succ, i64_w, i32_w]; rfl)); clear hS; intro w1 hb hS; clear hb))
  refine o_done ?_
  go_wp2
  go_ret
  exact ⟨by first | exact ret_bool rfl | rfl, hS.1⟩
theorem rvalid_1 (a b : Int) (w : World) (h : eqI a b 1 0 = false) (ha : ¬ -2147483648 ≤ a) : Calls Try.prog 32 #[.agg #[.int .i64 a, .int .i64 b]] w fun e w' => e = .returned (.bool false) ∧ Below w.heap.size w w' := by
  have hd : decide (-2147483648 ≤ a) = false := decide_eq_false ha
  go_enter Try.func32, Try.ntmps32
  go_wp2_with fail
  refine o_start (S := (fun w' => Below w.heap.size w w' ∧ IB w' (w.heap.size) (a) (b))) (ds := []) (.cons 0 1 (.cons 1 2 (.cons 2 0 (.cons 3 0 (.cons 4 0 (.cons 5 1 (.cons 6 0 (.cons 7 0 (.cons 8 0 (.cons 9 1 (.cons 10 0 (.cons 11 1 (.cons 12 0 (.cons 13 0 (.cons 14 0 (.cons 15 0 (.cons 16 1 (.cons 17 0 (.cons 18 0 (.cons 19 0 (.cons 20 0 .nil))))))))))))))))))))) (by kernel_rfl) (by kernel_rfl) (fun _ _ d _ _ h => by cases d <;> exact h) ⟨((Below.refl _ _).alloc (Nat.le_refl _) _).drew, (IB.new _ _ _).drew⟩ (fun w1 hS => ?_)
  repeat' (first
    | (refine o_off (a' := ?_) rfl rfl (by rfl) ?_ ?_; rotate_left; (focus (simp only [Act.put, List.setIfInBounds_toArray, List.set_cons_zero, List.set_cons_succ, i64_w, i32_w]; rfl)))
    | (refine o_pure (v := ?_) (a' := ?_) rfl rfl (by rfl) ?_ ?_ ?_; rotate_left 2; (focus (intro w'; go_simp; with_reducible rfl)); (focus (simp only [Act.put, List.setIfInBounds_toArray, List.set_cons_zero, List.set_cons_succ, i64_w, i32_w]; rfl)))
    | (refine o_loadoff (a' := ?_) rfl rfl (by rfl) hS ?_ ?_; rotate_left; (focus (simp only [Act.put, List.setIfInBounds_toArray, List.set_cons_zero, List.set_cons_succ, i64_w, i32_w]; rfl)))
    | (refine o_load (v := ?_) (a' := ?_) rfl rfl (by rfl) hS ?_ ?_ ?_; rotate_left 2; (focus (rintro w' ⟨_, i0⟩; have c0 := i0.c0; have d0 := i0.c1; go_simp; with_reducible rfl)); (focus (simp only [Act.put, List.setIfInBounds_toArray, List.set_cons_zero, List.set_cons_succ, i64_w, i32_w]; rfl)))
    | (refine o_one rfl ?_)
    | (refine o_fork2 rfl rfl ?_ ?_)
    | (refine s_off (a' := ?_) rfl (by rfl) hS ?_ ?_; rotate_left; (focus (simp only [Act.put, List.setIfInBounds_toArray, List.set_cons_zero, List.set_cons_succ, i64_w, i32_w]; rfl)))
    | (refine s_call (f := 13) (a' := ?_) rfl (by rfl) rfl Try.func13 (by kernel_rfl) rfl (rnone_any _) (by (try simp only [List.map_toArray, List.map_cons, List.map_nil]); first | done | rfl) (fun w' hb => ⟨below_call hS.1 hb, IB.below hS.2 hb⟩) ?_ ?_; rotate_left; (focus (simp only [Act.put, List.setIfInBounds_toArray, List.set_cons_zero, List.set_cons_succ, i64_w, i32_w]; rfl)); clear hS; intro w1 hb hS; clear hb))
  refine o_done ?_
  go_wp2
  go_ret
  exact ⟨by first | exact ret_bool rfl | rfl, hS.1⟩
theorem rvalid_2 (a b : Int) (w : World) (h : eqI a b 1 0 = false) (ha : -2147483648 ≤ a) (hab : ¬ a ≤ b) : Calls Try.prog 32 #[.agg #[.int .i64 a, .int .i64 b]] w fun e w' => e = .returned (.bool false) ∧ Below w.heap.size w w' := by
  have hd : decide (-2147483648 ≤ a) = true := decide_eq_true ha
  have he : decide (a ≤ b) = false := decide_eq_false hab
  go_enter Try.func32, Try.ntmps32
  go_wp2_with fail
  refine o_start (S := (fun w' => Below w.heap.size w w' ∧ IB w' (w.heap.size) (a) (b))) (ds := []) (.cons 0 1 (.cons 1 2 (.cons 2 0 (.cons 3 0 (.cons 4 0 (.cons 5 1 (.cons 6 0 (.cons 7 0 (.cons 8 0 (.cons 9 1 (.cons 10 0 (.cons 11 1 (.cons 12 0 (.cons 13 0 (.cons 14 0 (.cons 15 0 (.cons 16 1 (.cons 17 0 (.cons 18 0 (.cons 19 0 (.cons 20 0 .nil))))))))))))))))))))) (by kernel_rfl) (by kernel_rfl) (fun _ _ d _ _ h => by cases d <;> exact h) ⟨((Below.refl _ _).alloc (Nat.le_refl _) _).drew, (IB.new _ _ _).drew⟩ (fun w1 hS => ?_)
  repeat' (first
    | (refine o_off (a' := ?_) rfl rfl (by rfl) ?_ ?_; rotate_left; (focus (simp only [Act.put, List.setIfInBounds_toArray, List.set_cons_zero, List.set_cons_succ, i64_w, i32_w]; rfl)))
    | (refine o_pure (v := ?_) (a' := ?_) rfl rfl (by rfl) ?_ ?_ ?_; rotate_left 2; (focus (intro w'; go_simp; with_reducible rfl)); (focus (simp only [Act.put, List.setIfInBounds_toArray, List.set_cons_zero, List.set_cons_succ, i64_w, i32_w]; rfl)))
    | (refine o_loadoff (a' := ?_) rfl rfl (by rfl) hS ?_ ?_; rotate_left; (focus (simp only [Act.put, List.setIfInBounds_toArray, List.set_cons_zero, List.set_cons_succ, i64_w, i32_w]; rfl)))
    | (refine o_load (v := ?_) (a' := ?_) rfl rfl (by rfl) hS ?_ ?_ ?_; rotate_left 2; (focus (rintro w' ⟨_, i0⟩; have c0 := i0.c0; have d0 := i0.c1; go_simp; with_reducible rfl)); (focus (simp only [Act.put, List.setIfInBounds_toArray, List.set_cons_zero, List.set_cons_succ, i64_w, i32_w]; rfl)))
    | (refine o_one rfl ?_)
    | (refine o_fork2 rfl rfl ?_ ?_)
    | (refine s_off (a' := ?_) rfl (by rfl) hS ?_ ?_; rotate_left; (focus (simp only [Act.put, List.setIfInBounds_toArray, List.set_cons_zero, List.set_cons_succ, i64_w, i32_w]; rfl)))
    | (refine s_call (f := 13) (a' := ?_) rfl (by rfl) rfl Try.func13 (by kernel_rfl) rfl (rnone_any _) (by (try simp only [List.map_toArray, List.map_cons, List.map_nil]); first | done | rfl) (fun w' hb => ⟨below_call hS.1 hb, IB.below hS.2 hb⟩) ?_ ?_; rotate_left; (focus (simp only [Act.put, List.setIfInBounds_toArray, List.set_cons_zero, List.set_cons_succ, i64_w, i32_w]; rfl)); clear hS; intro w1 hb hS; clear hb))
  refine o_done ?_
  go_wp2
  go_ret
  exact ⟨by first | exact ret_bool rfl | rfl, hS.1⟩
theorem rvalid_3 (a b : Int) (w : World) (h : eqI a b 1 0 = false) (ha : -2147483648 ≤ a) (hab : a ≤ b) : Calls Try.prog 32 #[.agg #[.int .i64 a, .int .i64 b]] w fun e w' => e = .returned (.bool (decide (b ≤ 2147483647))) ∧ Below w.heap.size w w' := by
  have hd : decide (-2147483648 ≤ a) = true := decide_eq_true ha
  have he : decide (a ≤ b) = true := decide_eq_true hab
  go_enter Try.func32, Try.ntmps32
  go_wp2_with fail
  refine o_start (S := (fun w' => Below w.heap.size w w' ∧ IB w' (w.heap.size) (a) (b))) (ds := []) (.cons 0 1 (.cons 1 2 (.cons 2 0 (.cons 3 0 (.cons 4 0 (.cons 5 1 (.cons 6 0 (.cons 7 0 (.cons 8 0 (.cons 9 1 (.cons 10 0 (.cons 11 1 (.cons 12 0 (.cons 13 0 (.cons 14 0 (.cons 15 0 (.cons 16 1 (.cons 17 0 (.cons 18 0 (.cons 19 0 (.cons 20 0 .nil))))))))))))))))))))) (by kernel_rfl) (by kernel_rfl) (fun _ _ d _ _ h => by cases d <;> exact h) ⟨((Below.refl _ _).alloc (Nat.le_refl _) _).drew, (IB.new _ _ _).drew⟩ (fun w1 hS => ?_)
  repeat' (first
    | (refine o_off (a' := ?_) rfl rfl (by rfl) ?_ ?_; rotate_left; (focus (simp only [Act.put, List.setIfInBounds_toArray, List.set_cons_zero, List.set_cons_succ, i64_w, i32_w]; rfl)))
    | (refine o_pure (v := ?_) (a' := ?_) rfl rfl (by rfl) ?_ ?_ ?_; rotate_left 2; (focus (intro w'; go_simp; with_reducible rfl)); (focus (simp only [Act.put, List.setIfInBounds_toArray, List.set_cons_zero, List.set_cons_succ, i64_w, i32_w]; rfl)))
    | (refine o_loadoff (a' := ?_) rfl rfl (by rfl) hS ?_ ?_; rotate_left; (focus (simp only [Act.put, List.setIfInBounds_toArray, List.set_cons_zero, List.set_cons_succ, i64_w, i32_w]; rfl)))
    | (refine o_load (v := ?_) (a' := ?_) rfl rfl (by rfl) hS ?_ ?_ ?_; rotate_left 2; (focus (rintro w' ⟨_, i0⟩; have c0 := i0.c0; have d0 := i0.c1; go_simp; with_reducible rfl)); (focus (simp only [Act.put, List.setIfInBounds_toArray, List.set_cons_zero, List.set_cons_succ, i64_w, i32_w]; rfl)))
    | (refine o_one rfl ?_)
    | (refine o_fork2 rfl rfl ?_ ?_)
    | (refine s_off (a' := ?_) rfl (by rfl) hS ?_ ?_; rotate_left; (focus (simp only [Act.put, List.setIfInBounds_toArray, List.set_cons_zero, List.set_cons_succ, i64_w, i32_w]; rfl)))
    | (refine s_call (f := 13) (a' := ?_) rfl (by rfl) rfl Try.func13 (by kernel_rfl) rfl (rnone_any _) (by (try simp only [List.map_toArray, List.map_cons, List.map_nil]); first | done | rfl) (fun w' hb => ⟨below_call hS.1 hb, IB.below hS.2 hb⟩) ?_ ?_; rotate_left; (focus (simp only [Act.put, List.setIfInBounds_toArray, List.set_cons_zero, List.set_cons_succ, i64_w, i32_w]; rfl)); clear hS; intro w1 hb hS; clear hb))
  refine o_done ?_
  go_wp2
  go_ret
  exact ⟨by first | exact ret_bool rfl | rfl, hS.1⟩
theorem rvalid_any (a b : Int) (w : World) : Calls Try.prog 32 #[.agg #[.int .i64 a, .int .i64 b]] w fun e w' => e = .returned (.bool (valB a b)) ∧ Below w.heap.size w w' := by
  unfold valB
  by_cases h : nonB a b = true
  · rw [h]
    simp only [nonB, Bool.and_eq_true, beq_iff_eq] at h
    obtain ⟨rfl, rfl⟩ := h
    exact rvalid_non w
  · replace h : nonB a b = false := by simpa using h
    rw [h]
    by_cases ha : -2147483648 ≤ a
    · by_cases hab : a ≤ b
      · refine (rvalid_3 a b w h ha hab).mono ?_
        rintro e w' ⟨rfl, hb⟩
        refine ⟨ret_bool ?_, hb⟩
        rw [Bool.eq_iff_iff]; simp [isB]; omega
      · refine (rvalid_2 a b w h ha hab).mono ?_
        rintro e w' ⟨rfl, hb⟩
        refine ⟨ret_bool ?_, hb⟩
        rw [Bool.eq_iff_iff]; simp [isB]; omega
    · refine (rvalid_1 a b w h ha).mono ?_
      rintro e w' ⟨rfl, hb⟩
      refine ⟨ret_bool ?_, hb⟩
      rw [Bool.eq_iff_iff]; simp [isB]; omega
theorem fix_any (a b : Int) (w : World) : Calls Try.prog 33 #[.agg #[.int .i64 a, .int .i64 b]] w fun e w' => e = .returned (.agg #[.int .i64 (fixP a b).1, .int .i64 (fixP a b).2]) ∧ Below w.heap.size w w' := by
  unfold fixP
  cases hv : valB a b
  · go_enter Try.func33, Try.ntmps33
    go_wp2_with (first | (go_at_call 20; refine (valid_any _ _ _).mono ?_; rintro e w1 ⟨rfl, hb⟩; have hB := below_call (((Below.refl w.heap.size w).alloc (Nat.le_refl _) _).alloc (by simp) _) hb; have i1 : IB w1 (w.heap.size + 1) 0 0 := (IB.at (by simp) 0 0).below hb; clear hb) | (go_at_call 10; refine (all_any _).mono ?_; rintro e w2 ⟨rfl, hb⟩; have hB2 := below_call hB hb; have i2 := IB.below i1 hb; have c0 := i2.c0; have c1 := i2.c1; have f0 := i2.f0 0; have f1 := i2.f0 1; clear hb))
    refine bodyPost_ret (v := .agg #[.int .i64 (-2147483648), .int .i64 2147483647]) ?_ rfl ⟨rfl, ?_⟩
    · have c2 := ((i2.set0 (-2147483648)).set1 2147483647).c0
      have c3 := ((i2.set0 (-2147483648)).set1 2147483647).c1
      simp [results, Try.results33, go_sem, c2, c3]
    · exact below_set (below_set hB2 (by omega) _) (by omega) _
  · go_enter Try.func33, Try.ntmps33
    go_wp2_with (first | (go_at_call 20; refine (valid_any _ _ _).mono ?_; rintro e w1 ⟨rfl, hb⟩; have hB := below_call (((Below.refl w.heap.size w).alloc (Nat.le_refl _) _).alloc (by simp) _) hb; have i1 : IB w1 (w.heap.size + 1) 0 0 := (IB.at (by simp) 0 0).below hb; have i0 := (((IB.new w a b).alloc _).below hb); have c0 := i0.c0; have c1 := i0.c1; have d0 := i1.c0; have d1 := i1.c1; have f0 := i1.f0 0; have f1 := i1.f0 1; clear hb))
    refine bodyPost_ret (v := .agg #[.int .i64 a, .int .i64 b]) ?_ rfl ⟨rfl, ?_⟩
    · have c2 := ((i1.set0 a).set1 b).c0
      have c3 := ((i1.set0 a).set1 b).c1
      simp [results, Try.results33, go_sem, c2, c3]
    · exact below_set (below_set hB (by omega) _) (by omega) _
theorem form_any (a b : Int) (w : World) : Calls Try.prog 46 #[.agg #[.int .i64 a, .int .i64 b]] w fun e w' => e = .returned (.agg #[.int .i64 (fixP a b).1, .int .i64 (fixP a b).2]) ∧ Below w.heap.size w w' := by
  unfold fixP
  cases hv : valB a b
  · go_enter Try.func46, Try.ntmps46
    go_wp2_with (first | (go_at_call 32; refine (rvalid_any _ _ _).mono ?_; rintro e w1 ⟨rfl, hb⟩; have hB := below_call (((Below.refl w.heap.size w).alloc (Nat.le_refl _) _).alloc (by simp) _) hb; have i1 : IB w1 (w.heap.size + 1) 0 0 := (IB.at (by simp) 0 0).below hb; clear hb) | (go_at_call 11; refine (rall_any _).mono ?_; rintro e w2 ⟨rfl, hb⟩; have hB2 := below_call hB hb; have i2 := IB.below i1 hb; have c0 := i2.c0; have c1 := i2.c1; have f0 := i2.f0 0; have f1 := i2.f0 1; clear hb))
    refine bodyPost_ret (v := .agg #[.int .i64 (-2147483648), .int .i64 2147483647]) ?_ rfl ⟨rfl, ?_⟩
    · have c2 := ((i2.set0 (-2147483648)).set1 2147483647).c0
      have c3 := ((i2.set0 (-2147483648)).set1 2147483647).c1
      simp [results, Try.results46, go_sem, c2, c3]
    · exact below_set (below_set hB2 (by omega) _) (by omega) _
  · go_enter Try.func46, Try.ntmps46
    go_wp2_with (first | (go_at_call 32; refine (rvalid_any _ _ _).mono ?_; rintro e w1 ⟨rfl, hb⟩; have hB := below_call (((Below.refl w.heap.size w).alloc (Nat.le_refl _) _).alloc (by simp) _) hb; have i1 : IB w1 (w.heap.size + 1) 0 0 := (IB.at (by simp) 0 0).below hb; have i0 := (((IB.new w a b).alloc _).below hb); have c0 := i0.c0; have c1 := i0.c1; have d0 := i1.c0; have d1 := i1.c1; have f0 := i1.f0 0; have f1 := i1.f0 1; clear hb))
    refine bodyPost_ret (v := .agg #[.int .i64 a, .int .i64 b]) ?_ rfl ⟨rfl, ?_⟩
    · have c2 := ((i1.set0 a).set1 b).c0
      have c3 := ((i1.set0 a).set1 b).c1
      simp [results, Try.results46, go_sem, c2, c3]
    · exact below_set (below_set hB (by omega) _) (by omega) _
theorem empty_any (a b : Int) (w : World) : Calls Try.prog 34 #[.agg #[.int .i64 a, .int .i64 b]] w fun e w' => e = .returned (.bool (emptyB a b)) ∧ Below w.heap.size w w' := by
  have e : decide (b < a) = emptyB a b := rfl
  have E := Lib.hid e; clear e
  go_enter Try.func34, Try.ntmps34
  go_wp2
  go_ret
  exact ⟨by first | exact ret_bool E.out | rfl, (Below.refl _ _).alloc (Nat.le_refl _) _⟩
theorem made_any (a b : Int) (w : World) : Calls Try.prog 42 #[.int .i64 a, .int .i64 b] w fun e w' => e = .returned (.agg #[.int .i64 (made a b).1, .int .i64 (made a b).2]) ∧ Below w.heap.size w w' := by
  unfold made
  by_cases h : a > b
  · rw [if_pos h]
    go_enter Try.func42, Try.ntmps42
    go_wp2_with (go_at_call 12; refine (none_any _).mono ?_; rintro e w1 ⟨rfl, hb⟩; have hB := below_call ((Below.refl w.heap.size w).alloc (Nat.le_refl _) _) hb; have i1 := (IB.new _ 0 0).below hb; have d0 := i1.c0; have d1 := i1.c1; have f0 := i1.f0 0; have f1 := i1.f0 1; clear hb)
    refine bodyPost_ret (v := .agg #[.int .i64 1, .int .i64 0]) ?_ rfl ⟨rfl, ?_⟩
    · have c2 := ((i1.set0 1).set1 0).c0
      have c3 := ((i1.set0 1).set1 0).c1
      simp [results, Try.results42, go_sem, c2, c3]
    · exact below_set (below_set hB (by omega) _) (by omega) _
  · rw [if_neg h]
    go_enter Try.func42, Try.ntmps42
    go_wp2
    exact bodyPost_ret (v := .agg #[.int .i64 a, .int .i64 b]) (by simp [results, Try.results42, go_sem]) rfl ⟨rfl, (Below.refl _ _).alloc (Nat.le_refl _) _⟩
theorem rof_any (a b : Int) (w : World) : Calls Try.prog 48 #[.int .i64 a, .int .i64 b] w fun e w' => e = .returned (.agg #[.int .i64 (made a b).1, .int .i64 (made a b).2]) ∧ Below w.heap.size w w' := by
  unfold made
  by_cases h : a > b
  · rw [if_pos h]
    go_enter Try.func48, Try.ntmps48
    go_wp2_with (go_at_call 13; refine (rnone_any _).mono ?_; rintro e w1 ⟨rfl, hb⟩; have hB := below_call ((Below.refl w.heap.size w).alloc (Nat.le_refl _) _) hb; have i1 := (IB.new _ 0 0).below hb; have d0 := i1.c0; have d1 := i1.c1; have f0 := i1.f0 0; have f1 := i1.f0 1; clear hb)
    refine bodyPost_ret (v := .agg #[.int .i64 1, .int .i64 0]) ?_ rfl ⟨rfl, ?_⟩
    · have c2 := ((i1.set0 1).set1 0).c0
      have c3 := ((i1.set0 1).set1 0).c1
      simp [results, Try.results48, go_sem, c2, c3]
    · exact below_set (below_set hB (by omega) _) (by omega) _
  · rw [if_neg h]
    go_enter Try.func48, Try.ntmps48
    go_wp2
    exact bodyPost_ret (v := .agg #[.int .i64 a, .int .i64 b]) (by simp [results, Try.results48, go_sem]) rfl ⟨rfl, (Below.refl _ _).alloc (Nat.le_refl _) _⟩
end Go.Proofs.Ytdooadomkifbbaa
