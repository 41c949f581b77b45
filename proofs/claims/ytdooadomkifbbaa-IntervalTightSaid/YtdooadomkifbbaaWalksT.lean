/-
  The walk of the law's helper 'inside': a word of an interval. Condition: the interval is of words, and not None.
-/
import Derived.Test.YtdooadomkifbbaaWalksE
namespace Go.Proofs.Ytdooadomkifbbaa
open Go.RowKit
open Go.Proofs.YtdooadomkifbbaaW.PrintLast
attribute [local go_sem high] eqA23
attribute [local go_sem] max2_i min2_i max_2 min_2 max_4 min_4
set_option maxHeartbeats 2000000
set_option maxRecDepth 100000
set_option linter.unusedSimpArgs false
set_option linter.unusedVariables false
theorem inside_any (p q n : Int) (b0 : -2147483648 ≤ p) (b1 : p ≤ q) (b2 : q ≤ 2147483647) (n0 : 0 ≤ n) (n1 : n ≤ 4294967295) (w : World) : Calls Try.prog 18 #[.agg #[.int .i64 p, .int .i64 q], .int .u32 n] w fun e w' => e = .returned (.int .i64 (p + n % (q - p + 1))) ∧ Below w.heap.size w w' := by
  have nz : ¬ (q - p + 1) = 0 := by omega
  have m0 := Int.emod_nonneg n nz
  have m1 := Int.emod_lt_of_pos n (show 0 < q - p + 1 by omega)
  have mt : n.tmod (q - p + 1) = n % (q - p + 1) := Int.tmod_eq_emod_of_nonneg n0
  have v0 : wrap64 (q - p) = q - p := w64_in (by omega) (by omega)
  have v1 : wrap64 (q - p + 1) = q - p + 1 := w64_in (by omega) (by omega)
  have v2 : wrap64 (n.tmod (q - p + 1)) = n % (q - p + 1) := by rw [mt]; exact w64_in (by omega) (by omega)
  have v3 : wrap64 (p + n % (q - p + 1)) = p + n % (q - p + 1) := w64_in (by omega) (by omega)
  have v4 : wrap64 n = n := w64_in (by omega) (by omega)
  clear m0 m1
  go_enter Try.func18, Try.ntmps18
  go_wp2_with fail
  refine o_start (S := (fun w' => Below w.heap.size w w' ∧ IB w' (w.heap.size) (p) (q))) (ds := []) (.cons 0 0 (.cons 1 1 (.cons 2 0 (.cons 3 0 (.cons 4 0 (.cons 5 1 (.cons 6 0 (.cons 7 1 (.cons 8 0 (.cons 9 0 (.cons 10 0 (.cons 11 0 (.cons 12 0 .nil))))))))))))) (by kernel_rfl) (by kernel_rfl) (fun _ _ d _ _ h => by cases d <;> exact h) ⟨(below_alloc w _).drew, (IB.new w p q).drew⟩ (fun w1 hS => ?_)
  repeat' (first
    | (refine o_off (a' := ?_) rfl rfl (by rfl) ?_ ?_; rotate_left; (focus (simp only [Act.put, List.setIfInBounds_toArray, List.set_cons_zero, List.set_cons_succ, i64_w, i32_w, v0, v1, v2, v3, v4, mt]; rfl)))
    | (refine o_pure (v := ?_) (a' := ?_) rfl rfl (by rfl) ?_ ?_ ?_; rotate_left 2; (focus (intro w'; go_simp; with_reducible rfl)); (focus (simp only [Act.put, List.setIfInBounds_toArray, List.set_cons_zero, List.set_cons_succ, i64_w, i32_w, v0, v1, v2, v3, v4, mt]; rfl)))
    | (refine o_loadoff (a' := ?_) rfl rfl (by rfl) hS ?_ ?_; rotate_left; (focus (simp only [Act.put, List.setIfInBounds_toArray, List.set_cons_zero, List.set_cons_succ, i64_w, i32_w, v0, v1, v2, v3, v4, mt]; rfl)))
    | (refine o_load (v := ?_) (a' := ?_) rfl rfl (by rfl) hS ?_ ?_ ?_; rotate_left 2; (focus (rintro w' ⟨_, i0⟩; have c0 := i0.c0; have d0 := i0.c1; go_simp; with_reducible rfl)); (focus (simp only [Act.put, List.setIfInBounds_toArray, List.set_cons_zero, List.set_cons_succ, i64_w, i32_w, v0, v1, v2, v3, v4, mt]; rfl)))
    | (refine o_one rfl ?_)
    | (refine o_fork2 rfl rfl ?_ ?_)
    | (refine s_off (a' := ?_) rfl (by rfl) hS ?_ ?_; rotate_left; (focus (simp only [Act.put, List.setIfInBounds_toArray, List.set_cons_zero, List.set_cons_succ, i64_w, i32_w, v0, v1, v2, v3, v4, mt]; rfl))))
  refine o_done ?_
  go_wp2
  go_ret
  exact ⟨rfl, hS.1⟩
end Go.Proofs.Ytdooadomkifbbaa
