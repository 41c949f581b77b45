/-
  The walks of quotient, bitwise and comparison, and of the reference's both, but, hull and truth. Conditions: words, where bounds are named.
-/
import Derived.Test.YtdooadomkifbbaaWalksE
import Derived.Test.YtdooadomkifbbaaPlain2
namespace Go.Proofs.Ytdooadomkifbbaa
open Go.RowKit
open Go.Proofs.YtdooadomkifbbaaW.PrintLast
attribute [local go_sem high] eqA23
attribute [local go_sem] max2_i min2_i max_2 min_2 max_4 min_4
set_option maxHeartbeats 2000000
set_option maxRecDepth 100000
set_option linter.unusedSimpArgs false
set_option linter.unusedVariables false
theorem quotient_4 (p q r s : Int) (w : World) (b0 : -2147483648 ≤ p) (b1 : p ≤ 2147483647) (b2 : -2147483648 ≤ q) (b3 : q ≤ 2147483647) (h1 : 1 ≤ r) (h2 : 1 ≤ s) : Calls Try.prog 36 #[.int .i64 4, .agg #[.int .i64 p, .int .i64 q], .agg #[.int .i64 r, .int .i64 s]] w fun e w' => e = .returned (.agg #[.int .i64 (quoF p q r s).1, .int .i64 (quoF p q r s).2]) ∧ Below w.heap.size w w' := by
  unfold quoF
  have n1 : ¬ r = 0 := by omega
  have n2 : ¬ s = 0 := by omega
  go_enter Try.func36, Try.ntmps36
  go_wp2_with fail
  refine o_start (S := (fun w' => Below w.heap.size w w' ∧ IB w' (w.heap.size) (p) (q) ∧ IB w' (w.heap.size + 1) (r) (s) ∧ IB w' (w.heap.size + 2) (0) (0))) (ds := []) (.cons 0 0 (.cons 1 1 (.cons 2 0 (.cons 3 1 (.cons 4 0 (.cons 5 1 (.cons 6 0 (.cons 7 1 (.cons 8 0 (.cons 9 0 (.cons 10 0 (.cons 11 0 .nil)))))))))))) (by kernel_rfl) (by kernel_rfl) (fun _ _ d _ _ h => by cases d <;> exact h) ⟨((((Below.refl _ _).alloc (Nat.le_refl _) _).alloc (by simp) _).alloc (by simp; omega) _).drew, (((IB.new w p q).alloc _).alloc _).drew, ((IB.at (by simp) r s).alloc _).drew, (IB.at (by simp) 0 0).drew⟩ (fun w1 hS => ?_)
  repeat' (first
    | (refine o_off (a' := ?_) rfl rfl (by rfl) ?_ ?_; rotate_left; (focus (simp only [Act.put, List.setIfInBounds_toArray, List.set_cons_zero, List.set_cons_succ, i64_w, i32_w]; rfl)))
    | (refine o_pure (v := ?_) (a' := ?_) rfl rfl (by rfl) ?_ ?_ ?_; rotate_left 2; (focus (intro w'; go_simp; with_reducible rfl)); (focus (simp only [Act.put, List.setIfInBounds_toArray, List.set_cons_zero, List.set_cons_succ, i64_w, i32_w]; rfl)))
    | (refine o_loadoff (a' := ?_) rfl rfl (by rfl) hS ?_ ?_; rotate_left; (focus (simp only [Act.put, List.setIfInBounds_toArray, List.set_cons_zero, List.set_cons_succ, i64_w, i32_w]; rfl)))
    | (refine o_load (v := ?_) (a' := ?_) rfl rfl (by rfl) hS ?_ ?_ ?_; rotate_left 2; (focus (rintro w' ⟨_, i0, i1, i2⟩; have c0 := i0.c0; have d0 := i0.c1; have c1 := i1.c0; have d1 := i1.c1; have c2 := i2.c0; have d2 := i2.c1; go_simp; with_reducible rfl)); (focus (simp only [Act.put, List.setIfInBounds_toArray, List.set_cons_zero, List.set_cons_succ, i64_w, i32_w]; rfl)))
    | (refine o_one rfl ?_)
    | (refine o_fork2 rfl rfl ?_ ?_)
    | (refine s_off (a' := ?_) rfl (by rfl) hS ?_ ?_; rotate_left; (focus (simp only [Act.put, List.setIfInBounds_toArray, List.set_cons_zero, List.set_cons_succ, i64_w, i32_w]; rfl))))
  refine o_done ?_
  obtain ⟨hB, i0, i1, i2⟩ := hS
  have c0 := i0.c0; have d0 := i0.c1; have c1 := i1.c0; have d1 := i1.c1; have c2 := i2.c0; have d2 := i2.c1; 
  have f0 := i0.f0 0; have e0 := i0.f0 1
  have f1 := i1.f0 0; have e1 := i1.f0 1
  have f2 := i2.f0 0; have e2 := i2.f0 1
  go_wp2_with fail
  refine o_start (S := (fun w' => Below w.heap.size w w' ∧ IB w' (w.heap.size) (p) (q) ∧ IB w' (w.heap.size + 1) (r) (s) ∧ IB w' (w.heap.size + 2) (0) (0))) (ds := [14]) (.cons 0 0 (.cons 1 0 (.cons 2 0 (.cons 3 0 (.cons 4 0 (.cons 5 0 (.cons 6 0 (.cons 7 0 (.cons 8 0 (.cons 9 0 (.cons 10 0 (.cons 11 0 (.cons 12 2 (.cons 13 2 (.cons 14 3 .nil))))))))))))))) (by kernel_rfl) (by kernel_rfl) (fun _ _ d _ _ h => by cases d <;> exact h) ⟨hB.drew, i0.drew, i1.drew, i2.drew⟩ (fun w1 hS => ?_)
  clear hB i0 c0 d0 f0 e0 i1 c1 d1 f1 e1 i2 c2 d2 f2 e2
  repeat' (first
    | (refine o_off (a' := ?_) rfl rfl (by rfl) ?_ ?_; rotate_left; (focus (simp only [Act.put, List.setIfInBounds_toArray, List.set_cons_zero, List.set_cons_succ, i64_w, i32_w, w64_tdiv b0 b1 h1, w64_tdiv b0 b1 h2, w64_tdiv b2 b3 h1, w64_tdiv b2 b3 h2]; rfl)))
    | (refine o_pure (v := ?_) (a' := ?_) rfl rfl (by rfl) ?_ ?_ ?_; rotate_left 2; (focus (intro w'; go_simp; with_reducible rfl)); (focus (simp only [Act.put, List.setIfInBounds_toArray, List.set_cons_zero, List.set_cons_succ, i64_w, i32_w, w64_tdiv b0 b1 h1, w64_tdiv b0 b1 h2, w64_tdiv b2 b3 h1, w64_tdiv b2 b3 h2]; rfl)))
    | (refine o_loadoff (a' := ?_) rfl rfl (by rfl) hS ?_ ?_; rotate_left; (focus (simp only [Act.put, List.setIfInBounds_toArray, List.set_cons_zero, List.set_cons_succ, i64_w, i32_w, w64_tdiv b0 b1 h1, w64_tdiv b0 b1 h2, w64_tdiv b2 b3 h1, w64_tdiv b2 b3 h2]; rfl)))
    | (refine o_load (v := ?_) (a' := ?_) rfl rfl (by rfl) hS ?_ ?_ ?_; rotate_left 2; (focus (rintro w' ⟨_, i0, i1, i2⟩; have c0 := i0.c0; have d0 := i0.c1; have c1 := i1.c0; have d1 := i1.c1; have c2 := i2.c0; have d2 := i2.c1; go_simp; with_reducible rfl)); (focus (simp only [Act.put, List.setIfInBounds_toArray, List.set_cons_zero, List.set_cons_succ, i64_w, i32_w, w64_tdiv b0 b1 h1, w64_tdiv b0 b1 h2, w64_tdiv b2 b3 h1, w64_tdiv b2 b3 h2]; rfl)))
    | (refine o_one rfl ?_)
    | (refine o_fork2 rfl rfl ?_ ?_)
    | (refine s_off (a' := ?_) rfl (by rfl) hS ?_ ?_; rotate_left; (focus (simp only [Act.put, List.setIfInBounds_toArray, List.set_cons_zero, List.set_cons_succ, i64_w, i32_w, w64_tdiv b0 b1 h1, w64_tdiv b0 b1 h2, w64_tdiv b2 b3 h1, w64_tdiv b2 b3 h2]; rfl)))
    | (refine s_call (f := 35) (a' := ?_) rfl (by rfl) rfl Try.func35 (by kernel_rfl) rfl (around3 _ _ _ _ _ _ jA) (by (try simp only [List.map_toArray, List.map_cons, List.map_nil]); first | done | rfl) (fun w' hb => ⟨below_call hS.1 hb, IB.below hS.2.1 hb, IB.below hS.2.2.1 hb, IB.below hS.2.2.2 hb⟩) ?_ ?_; rotate_left; (focus (simp only [Act.put, List.setIfInBounds_toArray, List.set_cons_zero, List.set_cons_succ, i64_w, i32_w, w64_tdiv b0 b1 h1, w64_tdiv b0 b1 h2, w64_tdiv b2 b3 h1, w64_tdiv b2 b3 h2]; rfl)); clear hS; intro w1 hb hS; clear hb)
    | (refine s_slice3 (n := 34) (x := p.tdiv s) (y := q.tdiv r) (z := q.tdiv s) (a' := ?_) rfl (by rfl) (by go_simp) (fun w' hb => ⟨below_call hS.1 hb, IB.below hS.2.1 hb, IB.below hS.2.2.1 hb, IB.below hS.2.2.2 hb⟩) ?_ ?_; rotate_left; (focus (simp only [Act.put, List.setIfInBounds_toArray, List.set_cons_zero, List.set_cons_succ, i64_w, i32_w, w64_tdiv b0 b1 h1, w64_tdiv b0 b1 h2, w64_tdiv b2 b3 h1, w64_tdiv b2 b3 h2]; rfl)); clear hS; intro w1 hb jA hS; clear hb))
  obtain ⟨hB, i0, i1, i2⟩ := hS
  have c0 := i0.c0; have d0 := i0.c1; have c1 := i1.c0; have d1 := i1.c1; have c2 := i2.c0; have d2 := i2.c1; 
  have f0 := i0.f0 0; have e0 := i0.f0 1
  have f1 := i1.f0 0; have e1 := i1.f0 1
  have f2 := i2.f0 0; have e2 := i2.f0 1
  (refine o_store (w1 := ?_) rfl rfl (by rfl) ?_ ?_; rotate_left; (focus (go_simp; rfl)))
  refine o_done ?_
  go_wp2
  refine bodyPost_ret (v := .agg #[.int .i64 ((aroundF (mnI (mnI (mnI (p.tdiv r) (p.tdiv s)) (q.tdiv r)) (q.tdiv s)) (mxI (mxI (mxI (p.tdiv r) (p.tdiv s)) (q.tdiv r)) (q.tdiv s))).1), .int .i64 ((aroundF (mnI (mnI (mnI (p.tdiv r) (p.tdiv s)) (q.tdiv r)) (q.tdiv s)) (mxI (mxI (mxI (p.tdiv r) (p.tdiv s)) (q.tdiv r)) (q.tdiv s))).2)]) ?_ rfl ⟨rfl, ?_⟩
  · have k0 := ((i2.set0 ((aroundF (mnI (mnI (mnI (p.tdiv r) (p.tdiv s)) (q.tdiv r)) (q.tdiv s)) (mxI (mxI (mxI (p.tdiv r) (p.tdiv s)) (q.tdiv r)) (q.tdiv s))).1)).set1 ((aroundF (mnI (mnI (mnI (p.tdiv r) (p.tdiv s)) (q.tdiv r)) (q.tdiv s)) (mxI (mxI (mxI (p.tdiv r) (p.tdiv s)) (q.tdiv r)) (q.tdiv s))).2)).c0
    have k1 := ((i2.set0 ((aroundF (mnI (mnI (mnI (p.tdiv r) (p.tdiv s)) (q.tdiv r)) (q.tdiv s)) (mxI (mxI (mxI (p.tdiv r) (p.tdiv s)) (q.tdiv r)) (q.tdiv s))).1)).set1 ((aroundF (mnI (mnI (mnI (p.tdiv r) (p.tdiv s)) (q.tdiv r)) (q.tdiv s)) (mxI (mxI (mxI (p.tdiv r) (p.tdiv s)) (q.tdiv r)) (q.tdiv s))).2)).c1
    simp [results, Try.results36, go_sem, k0, k1]
  · exact below_set (below_set hB (by omega) _) (by omega) _
theorem quotient_50 (p q r s : Int) (w : World) (b0 : -2147483648 ≤ p) (b1 : p ≤ 2147483647) (b2 : -2147483648 ≤ q) (b3 : q ≤ 2147483647) (h2 : 1 ≤ s) (h3 : s ≤ 2147483647) (h4 : p < 0) (h5 : 0 < q) : Calls Try.prog 36 #[.int .i64 5, .agg #[.int .i64 p, .int .i64 q], .agg #[.int .i64 r, .int .i64 s]] w fun e w' => e = .returned (.agg #[.int .i64 (mxI p (-(s - 1))), .int .i64 (mnI q (s - 1))]) ∧ Below w.heap.size w w' := by
  go_enter Try.func36, Try.ntmps36
  go_wp2_with fail
  refine o_start (S := (fun w' => Below w.heap.size w w' ∧ IB w' (w.heap.size) (p) (q) ∧ IB w' (w.heap.size + 1) (r) (s) ∧ IB w' (w.heap.size + 2) (0) (0))) (ds := []) (.cons 0 0 (.cons 1 1 (.cons 2 0 (.cons 3 1 (.cons 4 0 (.cons 5 1 (.cons 6 0 (.cons 7 1 (.cons 8 0 (.cons 9 0 (.cons 10 0 (.cons 11 0 .nil)))))))))))) (by kernel_rfl) (by kernel_rfl) (fun _ _ d _ _ h => by cases d <;> exact h) ⟨((((Below.refl _ _).alloc (Nat.le_refl _) _).alloc (by simp) _).alloc (by simp; omega) _).drew, (((IB.new w p q).alloc _).alloc _).drew, ((IB.at (by simp) r s).alloc _).drew, (IB.at (by simp) 0 0).drew⟩ (fun w1 hS => ?_)
  repeat' (first
    | (refine o_off (a' := ?_) rfl rfl (by rfl) ?_ ?_; rotate_left; (focus (simp only [Act.put, List.setIfInBounds_toArray, List.set_cons_zero, List.set_cons_succ, i64_w, i32_w]; rfl)))
    | (refine o_pure (v := ?_) (a' := ?_) rfl rfl (by rfl) ?_ ?_ ?_; rotate_left 2; (focus (intro w'; go_simp; with_reducible rfl)); (focus (simp only [Act.put, List.setIfInBounds_toArray, List.set_cons_zero, List.set_cons_succ, i64_w, i32_w]; rfl)))
    | (refine o_loadoff (a' := ?_) rfl rfl (by rfl) hS ?_ ?_; rotate_left; (focus (simp only [Act.put, List.setIfInBounds_toArray, List.set_cons_zero, List.set_cons_succ, i64_w, i32_w]; rfl)))
    | (refine o_load (v := ?_) (a' := ?_) rfl rfl (by rfl) hS ?_ ?_ ?_; rotate_left 2; (focus (rintro w' ⟨_, i0, i1, i2⟩; have c0 := i0.c0; have d0 := i0.c1; have c1 := i1.c0; have d1 := i1.c1; have c2 := i2.c0; have d2 := i2.c1; go_simp; with_reducible rfl)); (focus (simp only [Act.put, List.setIfInBounds_toArray, List.set_cons_zero, List.set_cons_succ, i64_w, i32_w]; rfl)))
    | (refine o_one rfl ?_)
    | (refine o_fork2 rfl rfl ?_ ?_)
    | (refine s_off (a' := ?_) rfl (by rfl) hS ?_ ?_; rotate_left; (focus (simp only [Act.put, List.setIfInBounds_toArray, List.set_cons_zero, List.set_cons_succ, i64_w, i32_w]; rfl))))
  refine o_done ?_
  obtain ⟨hB, i0, i1, i2⟩ := hS
  have c0 := i0.c0; have d0 := i0.c1; have c1 := i1.c0; have d1 := i1.c1; have c2 := i2.c0; have d2 := i2.c1; 
  have f0 := i0.f0 0; have e0 := i0.f0 1
  have f1 := i1.f0 0; have e1 := i1.f0 1
  have f2 := i2.f0 0; have e2 := i2.f0 1
  have hz : w.heap.size + 1 + 1 < w1.heap.size := i2.lt
  go_wp2
  refine bodyPost_ret (v := .agg #[.int .i64 (mxI p (-(s - 1))), .int .i64 (mnI q (s - 1))]) ?_ rfl ⟨rfl, ?_⟩
  · have k0 := (((i2.set0 (mxI p (-(s - 1)))).set1 (mnI q (s - 1))).alloc (.cells #[.int .i64 (mxI p (-(s - 1))), .int .i64 (mnI q (s - 1))] 23)).c0
    have k1 := (((i2.set0 (mxI p (-(s - 1)))).set1 (mnI q (s - 1))).alloc (.cells #[.int .i64 (mxI p (-(s - 1))), .int .i64 (mnI q (s - 1))] 23)).c1
    simp [results, Try.results36, go_sem, k0, k1]
  · repeat (first | exact hB | refine below_set ?_ (by have := i2.lt; omega) _ | (refine Below.alloc ?_ (by have := hB.size; simp; omega) _))
theorem quotient_51 (p q r s : Int) (w : World) (b0 : -2147483648 ≤ p) (b1 : p ≤ 2147483647) (b2 : -2147483648 ≤ q) (b3 : q ≤ 2147483647) (h2 : 1 ≤ s) (h3 : s ≤ 2147483647) (h4 : p < 0) (h5 : ¬ 0 < q) : Calls Try.prog 36 #[.int .i64 5, .agg #[.int .i64 p, .int .i64 q], .agg #[.int .i64 r, .int .i64 s]] w fun e w' => e = .returned (.agg #[.int .i64 (mxI p (-(s - 1))), .int .i64 (0)]) ∧ Below w.heap.size w w' := by
  go_enter Try.func36, Try.ntmps36
  go_wp2_with fail
  refine o_start (S := (fun w' => Below w.heap.size w w' ∧ IB w' (w.heap.size) (p) (q) ∧ IB w' (w.heap.size + 1) (r) (s) ∧ IB w' (w.heap.size + 2) (0) (0))) (ds := []) (.cons 0 0 (.cons 1 1 (.cons 2 0 (.cons 3 1 (.cons 4 0 (.cons 5 1 (.cons 6 0 (.cons 7 1 (.cons 8 0 (.cons 9 0 (.cons 10 0 (.cons 11 0 .nil)))))))))))) (by kernel_rfl) (by kernel_rfl) (fun _ _ d _ _ h => by cases d <;> exact h) ⟨((((Below.refl _ _).alloc (Nat.le_refl _) _).alloc (by simp) _).alloc (by simp; omega) _).drew, (((IB.new w p q).alloc _).alloc _).drew, ((IB.at (by simp) r s).alloc _).drew, (IB.at (by simp) 0 0).drew⟩ (fun w1 hS => ?_)
  repeat' (first
    | (refine o_off (a' := ?_) rfl rfl (by rfl) ?_ ?_; rotate_left; (focus (simp only [Act.put, List.setIfInBounds_toArray, List.set_cons_zero, List.set_cons_succ, i64_w, i32_w]; rfl)))
    | (refine o_pure (v := ?_) (a' := ?_) rfl rfl (by rfl) ?_ ?_ ?_; rotate_left 2; (focus (intro w'; go_simp; with_reducible rfl)); (focus (simp only [Act.put, List.setIfInBounds_toArray, List.set_cons_zero, List.set_cons_succ, i64_w, i32_w]; rfl)))
    | (refine o_loadoff (a' := ?_) rfl rfl (by rfl) hS ?_ ?_; rotate_left; (focus (simp only [Act.put, List.setIfInBounds_toArray, List.set_cons_zero, List.set_cons_succ, i64_w, i32_w]; rfl)))
    | (refine o_load (v := ?_) (a' := ?_) rfl rfl (by rfl) hS ?_ ?_ ?_; rotate_left 2; (focus (rintro w' ⟨_, i0, i1, i2⟩; have c0 := i0.c0; have d0 := i0.c1; have c1 := i1.c0; have d1 := i1.c1; have c2 := i2.c0; have d2 := i2.c1; go_simp; with_reducible rfl)); (focus (simp only [Act.put, List.setIfInBounds_toArray, List.set_cons_zero, List.set_cons_succ, i64_w, i32_w]; rfl)))
    | (refine o_one rfl ?_)
    | (refine o_fork2 rfl rfl ?_ ?_)
    | (refine s_off (a' := ?_) rfl (by rfl) hS ?_ ?_; rotate_left; (focus (simp only [Act.put, List.setIfInBounds_toArray, List.set_cons_zero, List.set_cons_succ, i64_w, i32_w]; rfl))))
  refine o_done ?_
  obtain ⟨hB, i0, i1, i2⟩ := hS
  have c0 := i0.c0; have d0 := i0.c1; have c1 := i1.c0; have d1 := i1.c1; have c2 := i2.c0; have d2 := i2.c1; 
  have f0 := i0.f0 0; have e0 := i0.f0 1
  have f1 := i1.f0 0; have e1 := i1.f0 1
  have f2 := i2.f0 0; have e2 := i2.f0 1
  have hz : w.heap.size + 1 + 1 < w1.heap.size := i2.lt
  go_wp2
  refine bodyPost_ret (v := .agg #[.int .i64 (mxI p (-(s - 1))), .int .i64 (0)]) ?_ rfl ⟨rfl, ?_⟩
  · have k0 := (((i2.set0 (mxI p (-(s - 1)))).set1 (0)).alloc (.cells #[.int .i64 (mxI p (-(s - 1))), .int .i64 (0)] 23)).c0
    have k1 := (((i2.set0 (mxI p (-(s - 1)))).set1 (0)).alloc (.cells #[.int .i64 (mxI p (-(s - 1))), .int .i64 (0)] 23)).c1
    simp [results, Try.results36, go_sem, k0, k1]
  · repeat (first | exact hB | refine below_set ?_ (by have := i2.lt; omega) _ | (refine Below.alloc ?_ (by have := hB.size; simp; omega) _))
theorem quotient_52 (p q r s : Int) (w : World) (b0 : -2147483648 ≤ p) (b1 : p ≤ 2147483647) (b2 : -2147483648 ≤ q) (b3 : q ≤ 2147483647) (h2 : 1 ≤ s) (h3 : s ≤ 2147483647) (h4 : ¬ p < 0) (h5 : 0 < q) : Calls Try.prog 36 #[.int .i64 5, .agg #[.int .i64 p, .int .i64 q], .agg #[.int .i64 r, .int .i64 s]] w fun e w' => e = .returned (.agg #[.int .i64 (0), .int .i64 (mnI q (s - 1))]) ∧ Below w.heap.size w w' := by
  go_enter Try.func36, Try.ntmps36
  go_wp2_with fail
  refine o_start (S := (fun w' => Below w.heap.size w w' ∧ IB w' (w.heap.size) (p) (q) ∧ IB w' (w.heap.size + 1) (r) (s) ∧ IB w' (w.heap.size + 2) (0) (0))) (ds := []) (.cons 0 0 (.cons 1 1 (.cons 2 0 (.cons 3 1 (.cons 4 0 (.cons 5 1 (.cons 6 0 (.cons 7 1 (.cons 8 0 (.cons 9 0 (.cons 10 0 (.cons 11 0 .nil)))))))))))) (by kernel_rfl) (by kernel_rfl) (fun _ _ d _ _ h => by cases d <;> exact h) ⟨((((Below.refl _ _).alloc (Nat.le_refl _) _).alloc (by simp) _).alloc (by simp; omega) _).drew, (((IB.new w p q).alloc _).alloc _).drew, ((IB.at (by simp) r s).alloc _).drew, (IB.at (by simp) 0 0).drew⟩ (fun w1 hS => ?_)
  repeat' (first
    | (refine o_off (a' := ?_) rfl rfl (by rfl) ?_ ?_; rotate_left; (focus (simp only [Act.put, List.setIfInBounds_toArray, List.set_cons_zero, List.set_cons_succ, i64_w, i32_w]; rfl)))
    | (refine o_pure (v := ?_) (a' := ?_) rfl rfl (by rfl) ?_ ?_ ?_; rotate_left 2; (focus (intro w'; go_simp; with_reducible rfl)); (focus (simp only [Act.put, List.setIfInBounds_toArray, List.set_cons_zero, List.set_cons_succ, i64_w, i32_w]; rfl)))
    | (refine o_loadoff (a' := ?_) rfl rfl (by rfl) hS ?_ ?_; rotate_left; (focus (simp only [Act.put, List.setIfInBounds_toArray, List.set_cons_zero, List.set_cons_succ, i64_w, i32_w]; rfl)))
    | (refine o_load (v := ?_) (a' := ?_) rfl rfl (by rfl) hS ?_ ?_ ?_; rotate_left 2; (focus (rintro w' ⟨_, i0, i1, i2⟩; have c0 := i0.c0; have d0 := i0.c1; have c1 := i1.c0; have d1 := i1.c1; have c2 := i2.c0; have d2 := i2.c1; go_simp; with_reducible rfl)); (focus (simp only [Act.put, List.setIfInBounds_toArray, List.set_cons_zero, List.set_cons_succ, i64_w, i32_w]; rfl)))
    | (refine o_one rfl ?_)
    | (refine o_fork2 rfl rfl ?_ ?_)
    | (refine s_off (a' := ?_) rfl (by rfl) hS ?_ ?_; rotate_left; (focus (simp only [Act.put, List.setIfInBounds_toArray, List.set_cons_zero, List.set_cons_succ, i64_w, i32_w]; rfl))))
  refine o_done ?_
  obtain ⟨hB, i0, i1, i2⟩ := hS
  have c0 := i0.c0; have d0 := i0.c1; have c1 := i1.c0; have d1 := i1.c1; have c2 := i2.c0; have d2 := i2.c1; 
  have f0 := i0.f0 0; have e0 := i0.f0 1
  have f1 := i1.f0 0; have e1 := i1.f0 1
  have f2 := i2.f0 0; have e2 := i2.f0 1
  have hz : w.heap.size + 1 + 1 < w1.heap.size := i2.lt
  go_wp2
  refine bodyPost_ret (v := .agg #[.int .i64 (0), .int .i64 (mnI q (s - 1))]) ?_ rfl ⟨rfl, ?_⟩
  · have k0 := (((i2.set0 (0)).set1 (mnI q (s - 1))).alloc (.cells #[.int .i64 (0), .int .i64 (mnI q (s - 1))] 23)).c0
    have k1 := (((i2.set0 (0)).set1 (mnI q (s - 1))).alloc (.cells #[.int .i64 (0), .int .i64 (mnI q (s - 1))] 23)).c1
    simp [results, Try.results36, go_sem, k0, k1]
  · repeat (first | exact hB | refine below_set ?_ (by have := i2.lt; omega) _ | (refine Below.alloc ?_ (by have := hB.size; simp; omega) _))
theorem quotient_53 (p q r s : Int) (w : World) (b0 : -2147483648 ≤ p) (b1 : p ≤ 2147483647) (b2 : -2147483648 ≤ q) (b3 : q ≤ 2147483647) (h2 : 1 ≤ s) (h3 : s ≤ 2147483647) (h4 : ¬ p < 0) (h5 : ¬ 0 < q) : Calls Try.prog 36 #[.int .i64 5, .agg #[.int .i64 p, .int .i64 q], .agg #[.int .i64 r, .int .i64 s]] w fun e w' => e = .returned (.agg #[.int .i64 (0), .int .i64 (0)]) ∧ Below w.heap.size w w' := by
  go_enter Try.func36, Try.ntmps36
  go_wp2_with fail
  refine o_start (S := (fun w' => Below w.heap.size w w' ∧ IB w' (w.heap.size) (p) (q) ∧ IB w' (w.heap.size + 1) (r) (s) ∧ IB w' (w.heap.size + 2) (0) (0))) (ds := []) (.cons 0 0 (.cons 1 1 (.cons 2 0 (.cons 3 1 (.cons 4 0 (.cons 5 1 (.cons 6 0 (.cons 7 1 (.cons 8 0 (.cons 9 0 (.cons 10 0 (.cons 11 0 .nil)))))))))))) (by kernel_rfl) (by kernel_rfl) (fun _ _ d _ _ h => by cases d <;> exact h) ⟨((((Below.refl _ _).alloc (Nat.le_refl _) _).alloc (by simp) _).alloc (by simp; omega) _).drew, (((IB.new w p q).alloc _).alloc _).drew, ((IB.at (by simp) r s).alloc _).drew, (IB.at (by simp) 0 0).drew⟩ (fun w1 hS => ?_)
  repeat' (first
    | (refine o_off (a' := ?_) rfl rfl (by rfl) ?_ ?_; rotate_left; (focus (simp only [Act.put, List.setIfInBounds_toArray, List.set_cons_zero, List.set_cons_succ, i64_w, i32_w]; rfl)))
    | (refine o_pure (v := ?_) (a' := ?_) rfl rfl (by rfl) ?_ ?_ ?_; rotate_left 2; (focus (intro w'; go_simp; with_reducible rfl)); (focus (simp only [Act.put, List.setIfInBounds_toArray, List.set_cons_zero, List.set_cons_succ, i64_w, i32_w]; rfl)))
    | (refine o_loadoff (a' := ?_) rfl rfl (by rfl) hS ?_ ?_; rotate_left; (focus (simp only [Act.put, List.setIfInBounds_toArray, List.set_cons_zero, List.set_cons_succ, i64_w, i32_w]; rfl)))
    | (refine o_load (v := ?_) (a' := ?_) rfl rfl (by rfl) hS ?_ ?_ ?_; rotate_left 2; (focus (rintro w' ⟨_, i0, i1, i2⟩; have c0 := i0.c0; have d0 := i0.c1; have c1 := i1.c0; have d1 := i1.c1; have c2 := i2.c0; have d2 := i2.c1; go_simp; with_reducible rfl)); (focus (simp only [Act.put, List.setIfInBounds_toArray, List.set_cons_zero, List.set_cons_succ, i64_w, i32_w]; rfl)))
    | (refine o_one rfl ?_)
    | (refine o_fork2 rfl rfl ?_ ?_)
    | (refine s_off (a' := ?_) rfl (by rfl) hS ?_ ?_; rotate_left; (focus (simp only [Act.put, List.setIfInBounds_toArray, List.set_cons_zero, List.set_cons_succ, i64_w, i32_w]; rfl))))
  refine o_done ?_
  obtain ⟨hB, i0, i1, i2⟩ := hS
  have c0 := i0.c0; have d0 := i0.c1; have c1 := i1.c0; have d1 := i1.c1; have c2 := i2.c0; have d2 := i2.c1; 
  have f0 := i0.f0 0; have e0 := i0.f0 1
  have f1 := i1.f0 0; have e1 := i1.f0 1
  have f2 := i2.f0 0; have e2 := i2.f0 1
  have hz : w.heap.size + 1 + 1 < w1.heap.size := i2.lt
  go_wp2
  refine bodyPost_ret (v := .agg #[.int .i64 (0), .int .i64 (0)]) ?_ rfl ⟨rfl, ?_⟩
  · have k0 := (((i2.set0 (0)).set1 (0)).alloc (.cells #[.int .i64 (0), .int .i64 (0)] 23)).c0
    have k1 := (((i2.set0 (0)).set1 (0)).alloc (.cells #[.int .i64 (0), .int .i64 (0)] 23)).c1
    simp [results, Try.results36, go_sem, k0, k1]
  · repeat (first | exact hB | refine below_set ?_ (by have := i2.lt; omega) _ | (refine Below.alloc ?_ (by have := hB.size; simp; omega) _))
theorem quotient_5 (p q r s : Int) (w : World) (b0 : -2147483648 ≤ p) (b1 : p ≤ 2147483647) (b2 : -2147483648 ≤ q) (b3 : q ≤ 2147483647) (h2 : 1 ≤ s) (h3 : s ≤ 2147483647) : Calls Try.prog 36 #[.int .i64 5, .agg #[.int .i64 p, .int .i64 q], .agg #[.int .i64 r, .int .i64 s]] w fun e w' => e = .returned (.agg #[.int .i64 (remF p q s).1, .int .i64 (remF p q s).2]) ∧ Below w.heap.size w w' := by
  unfold remF
  by_cases h4 : p < 0
  · by_cases h5 : 0 < q
    · rw [if_pos h4, if_pos h5]; exact quotient_50 p q r s w b0 b1 b2 b3 h2 h3 h4 h5
    · rw [if_pos h4, if_neg h5]; exact quotient_51 p q r s w b0 b1 b2 b3 h2 h3 h4 h5
  · by_cases h5 : 0 < q
    · rw [if_neg h4, if_pos h5]; exact quotient_52 p q r s w b0 b1 b2 b3 h2 h3 h4 h5
    · rw [if_neg h4, if_neg h5]; exact quotient_53 p q r s w b0 b1 b2 b3 h2 h3 h4 h5
end Go.Proofs.Ytdooadomkifbbaa
