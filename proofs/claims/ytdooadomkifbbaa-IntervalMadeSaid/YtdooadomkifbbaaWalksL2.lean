/-
  The walks of the reference's Refine, part 2. Conditions: words, as Form gives them.
-/
import Derived.Test.YtdooadomkifbbaaWalksH
import Derived.Test.YtdooadomkifbbaaPlain4
namespace Go.Proofs.Ytdooadomkifbbaa
open Go.RowKit
open Go.Proofs.YtdooadomkifbbaaW.PrintLast
attribute [local go_sem high] eqA23
attribute [local go_sem] max2_i min2_i max_2 min_2 max_4 min_4
set_option maxHeartbeats 2000000
set_option maxRecDepth 100000
set_option linter.unusedSimpArgs false
set_option linter.unusedVariables false
theorem rr_11t (a b c d p q r s : Int) (w : World) (hpq : fixP a b = (p, q)) (hrs : fixP c d = (r, s)) (h1 : eqI p q 1 0 = false) (h2 : eqI r s 1 0 = false) (b0 : -2147483648 ≤ p) (b1 : p ≤ 2147483647) (b2 : -2147483648 ≤ q) (b3 : q ≤ 2147483647) (b4 : -2147483648 ≤ r) (b5 : r ≤ 2147483647) (b6 : -2147483648 ≤ s) (b7 : s ≤ 2147483647) :
    Calls Try.prog 26 #[.int .i64 11, .bool true, .agg #[.int .i64 a, .int .i64 b], .agg #[.int .i64 c, .int .i64 d]] w fun e w' => e = .returned (.tuple #[.agg #[.int .i64 ((bothF (made p (mnI q (s - 1))).1 (made p (mnI q (s - 1))).2 (made (mxI r (p + 1)) s).1 (made (mxI r (p + 1)) s).2).1).1, .int .i64 ((bothF (made p (mnI q (s - 1))).1 (made p (mnI q (s - 1))).2 (made (mxI r (p + 1)) s).1 (made (mxI r (p + 1)) s).2).1).2], .agg #[.int .i64 ((bothF (made p (mnI q (s - 1))).1 (made p (mnI q (s - 1))).2 (made (mxI r (p + 1)) s).1 (made (mxI r (p + 1)) s).2).2).1, .int .i64 ((bothF (made p (mnI q (s - 1))).1 (made p (mnI q (s - 1))).2 (made (mxI r (p + 1)) s).1 (made (mxI r (p + 1)) s).2).2).2]]) ∧ Below w.heap.size w w' := by
  have Hpq := Lib.hid hpq; have Hrs := Lib.hid hrs; clear hpq hrs
  have v0 : wrap64 (s - 1) = s - 1 := w64_in (by omega) (by omega)
  have v1 : wrap64 (p + 1) = p + 1 := w64_in (by omega) (by omega)
  have v2 : wrap64 (r + 1) = r + 1 := w64_in (by omega) (by omega)
  have v3 : wrap64 (q - 1) = q - 1 := w64_in (by omega) (by omega)
  go_enter Try.func26, Try.ntmps26
  go_wp2_with fail
  refine o_start (S := (fun w' => Below w.heap.size w w' ∧ IB w' (w.heap.size) (a) (b) ∧ IB w' (w.heap.size + 1) (c) (d) ∧ IB w' (w.heap.size + 2) (0) (0) ∧ IB w' (w.heap.size + 3) (0) (0))) (ds := [4, 5]) (.cons 0 1 (.cons 2 1 (.cons 1 2 (.cons 3 2 (.cons 4 3 (.cons 5 3 .nil)))))) (by kernel_rfl) (by kernel_rfl) (fun _ _ d _ _ h => by cases d <;> exact h) ⟨(((((Below.refl _ _).alloc (Nat.le_refl _) _).alloc (by simp) _).alloc (by simp; omega) _).alloc (by simp; omega) _).drew, ((((IB.new w a b).alloc _).alloc _).alloc _).drew, (((IB.at (by simp) c d).alloc _).alloc _).drew, ((IB.at (by simp) 0 0).alloc _).drew, (IB.at (by simp) 0 0).drew⟩ (fun w1 hS => ?_)
  repeat' (first
    | (refine o_off (a' := ?_) rfl rfl (by rfl) ?_ ?_; rotate_left; (focus (simp only [Act.put, sA, sB, sC, i64_w, i32_w]; rfl)))
    | (refine o_pure (v := ?_) (a' := ?_) rfl rfl (by rfl) ?_ ?_ ?_; rotate_left 2; (focus (intro w'; go_simp; with_reducible rfl)); (focus (simp only [Act.put, sA, sB, sC, i64_w, i32_w]; rfl)))
    | (refine o_loadoff (a' := ?_) rfl rfl (by rfl) hS ?_ ?_; rotate_left; (focus (simp only [Act.put, sA, sB, sC, i64_w, i32_w]; rfl)))
    | (refine o_load (v := ?_) (a' := ?_) rfl rfl (by rfl) hS ?_ ?_ ?_; rotate_left 2; (focus (rintro w' ⟨_, i0, i1, i2, i3⟩; have c0 := i0.c0; have d0 := i0.c1; have c1 := i1.c0; have d1 := i1.c1; have c2 := i2.c0; have d2 := i2.c1; have c3 := i3.c0; have d3 := i3.c1; go_simp; with_reducible rfl)); (focus (simp only [Act.put, sA, sB, sC, i64_w, i32_w]; rfl)))
    | (refine o_one rfl ?_)
    | (refine o_fork2 rfl rfl ?_ ?_)
    | (refine s_off (a' := ?_) rfl (by rfl) hS ?_ ?_; rotate_left; (focus (simp only [Act.put, sA, sB, sC, i64_w, i32_w]; rfl)))
    | (refine s_call (f := 46) (a' := ?_) rfl (by rfl) rfl Try.func46 (by kernel_rfl) rfl (form_as Hpq.out _) (by (try simp only [List.map_toArray, List.map_cons, List.map_nil]); first | done | rfl) (fun w' hb => ⟨below_call hS.1 hb, IB.below hS.2.1 hb, IB.below hS.2.2.1 hb, IB.below hS.2.2.2.1 hb, IB.below hS.2.2.2.2 hb⟩) ?_ ?_; rotate_left; (focus (simp only [Act.put, sA, sB, sC, i64_w, i32_w]; rfl)); clear hS; intro w1 hb hS; clear hb)
    | (refine s_call (f := 46) (a' := ?_) rfl (by rfl) rfl Try.func46 (by kernel_rfl) rfl (form_as Hrs.out _) (by (try simp only [List.map_toArray, List.map_cons, List.map_nil]); first | done | rfl) (fun w' hb => ⟨below_call hS.1 hb, IB.below hS.2.1 hb, IB.below hS.2.2.1 hb, IB.below hS.2.2.2.1 hb, IB.below hS.2.2.2.2 hb⟩) ?_ ?_; rotate_left; (focus (simp only [Act.put, sA, sB, sC, i64_w, i32_w]; rfl)); clear hS; intro w1 hb hS; clear hb))
  obtain ⟨hB, i0, i1, i2, i3⟩ := hS
  have c0 := i0.c0; have d0 := i0.c1; have c1 := i1.c0; have d1 := i1.c1; have c2 := i2.c0; have d2 := i2.c1; have c3 := i3.c0; have d3 := i3.c1; 
  have f0 := i0.f0 0; have e0 := i0.f0 1
  have f1 := i1.f0 0; have e1 := i1.f0 1
  have f2 := i2.f0 0; have e2 := i2.f0 1
  have f3 := i3.f0 0; have e3 := i3.f0 1
  (refine o_store (w1 := ?_) rfl rfl (by rfl) ?_ ?_; rotate_left; (focus (go_simp; rfl)))
  (refine o_store (w1 := ?_) rfl rfl (by rfl) ?_ ?_; rotate_left; (focus (go_simp; rfl)))
  refine o_close (S' := (fun w' => Below w.heap.size w w' ∧ IB w' (w.heap.size) (p) (q) ∧ IB w' (w.heap.size + 1) (r) (s) ∧ IB w' (w.heap.size + 2) (0) (0) ∧ IB w' (w.heap.size + 3) (0) (0))) ⟨below_set (below_set (below_set (below_set hB (by omega) _) (by omega) _) (by omega) _) (by omega) _, ((((i0.set0 p).set1 q).far (by omega) _).far (by omega) _), (((((i1.far (by omega) _).far (by omega) _).set0 r)).set1 s), ((((i2.far (by omega) _).far (by omega) _).far (by omega) _).far (by omega) _), ((((i3.far (by omega) _).far (by omega) _).far (by omega) _).far (by omega) _)⟩ (fun w2 hS => ?_)
  clear i0 c0 d0 f0 e0 i1 c1 d1 f1 e1 i2 c2 d2 f2 e2 i3 c3 d3 f3 e3 hB
  obtain ⟨hB, i0, i1, i2, i3⟩ := hS
  have c0 := i0.c0; have d0 := i0.c1; have c1 := i1.c0; have d1 := i1.c1; have c2 := i2.c0; have d2 := i2.c1; have c3 := i3.c0; have d3 := i3.c1; 
  have f0 := i0.f0 0; have e0 := i0.f0 1
  have f1 := i1.f0 0; have e1 := i1.f0 1
  have f2 := i2.f0 0; have e2 := i2.f0 1
  have f3 := i3.f0 0; have e3 := i3.f0 1
  go_wp2_with fail
  refine o_start (S := (fun w' => Below w.heap.size w w' ∧ IB w' (w.heap.size) (p) (q) ∧ IB w' (w.heap.size + 1) (r) (s) ∧ IB w' (w.heap.size + 2) (0) (0) ∧ IB w' (w.heap.size + 3) (0) (0))) (ds := []) (.cons 0 1 (.cons 1 2 (.cons 2 0 (.cons 3 0 (.cons 4 1 (.cons 5 2 (.cons 6 0 (.cons 7 0 .nil)))))))) (by kernel_rfl) (by kernel_rfl) (fun _ _ d _ _ h => by cases d <;> exact h) ⟨hB.drew, i0.drew, i1.drew, i2.drew, i3.drew⟩ (fun w1 hS => ?_)
  clear hB i0 c0 d0 f0 e0 i1 c1 d1 f1 e1 i2 c2 d2 f2 e2 i3 c3 d3 f3 e3
  repeat' (first
    | (refine o_off (a' := ?_) rfl rfl (by rfl) ?_ ?_; rotate_left; (focus (simp only [Act.put, sA, sB, sC, i64_w, i32_w]; rfl)))
    | (refine o_pure (v := ?_) (a' := ?_) rfl rfl (by rfl) ?_ ?_ ?_; rotate_left 2; (focus (intro w'; go_simp; with_reducible rfl)); (focus (simp only [Act.put, sA, sB, sC, i64_w, i32_w]; rfl)))
    | (refine o_loadoff (a' := ?_) rfl rfl (by rfl) hS ?_ ?_; rotate_left; (focus (simp only [Act.put, sA, sB, sC, i64_w, i32_w]; rfl)))
    | (refine o_load (v := ?_) (a' := ?_) rfl rfl (by rfl) hS ?_ ?_ ?_; rotate_left 2; (focus (rintro w' ⟨_, i0, i1, i2, i3⟩; have c0 := i0.c0; have d0 := i0.c1; have c1 := i1.c0; have d1 := i1.c1; have c2 := i2.c0; have d2 := i2.c1; have c3 := i3.c0; have d3 := i3.c1; go_simp; with_reducible rfl)); (focus (simp only [Act.put, sA, sB, sC, i64_w, i32_w]; rfl)))
    | (refine o_one rfl ?_)
    | (refine o_fork2 rfl rfl ?_ ?_)
    | (refine s_off (a' := ?_) rfl (by rfl) hS ?_ ?_; rotate_left; (focus (simp only [Act.put, sA, sB, sC, i64_w, i32_w]; rfl)))
    | (refine s_call (f := 13) (a' := ?_) rfl (by rfl) rfl Try.func13 (by kernel_rfl) rfl (rnone_any _) (by (try simp only [List.map_toArray, List.map_cons, List.map_nil]); first | done | rfl) (fun w' hb => ⟨below_call hS.1 hb, IB.below hS.2.1 hb, IB.below hS.2.2.1 hb, IB.below hS.2.2.2.1 hb, IB.below hS.2.2.2.2 hb⟩) ?_ ?_; rotate_left; (focus (simp only [Act.put, sA, sB, sC, i64_w, i32_w]; rfl)); clear hS; intro w1 hb hS; clear hb))
  refine o_done ?_
  obtain ⟨hB, i0, i1, i2, i3⟩ := hS
  have c0 := i0.c0; have d0 := i0.c1; have c1 := i1.c0; have d1 := i1.c1; have c2 := i2.c0; have d2 := i2.c1; have c3 := i3.c0; have d3 := i3.c1; 
  have f0 := i0.f0 0; have e0 := i0.f0 1
  have f1 := i1.f0 0; have e1 := i1.f0 1
  have f2 := i2.f0 0; have e2 := i2.f0 1
  have f3 := i3.f0 0; have e3 := i3.f0 1
  have l0 := i0.lt; have l1 := i1.lt; have l2 := i2.lt; have l3 := i3.lt
  go_wp2_with fail
  refine o_start (S := (fun w' => Below w.heap.size w w' ∧ IB w' (w.heap.size) (p) (q) ∧ IB w' (w.heap.size + 1) (r) (s) ∧ IB w' (w.heap.size + 2) (0) (0) ∧ IB w' (w.heap.size + 3) (0) (0))) (ds := [21, 22]) (.cons 0 0 (.cons 1 1 (.cons 2 0 (.cons 3 1 (.cons 4 0 (.cons 5 1 (.cons 6 0 (.cons 7 0 (.cons 9 0 (.cons 10 1 (.cons 11 0 (.cons 12 1 (.cons 13 0 (.cons 14 0 (.cons 15 0 (.cons 16 1 (.cons 8 2 (.cons 17 2 (.cons 18 2 (.cons 19 0 (.cons 20 0 (.cons 21 3 (.cons 22 3 .nil))))))))))))))))))))))) (by kernel_rfl) (by kernel_rfl) (fun _ _ d _ _ h => by cases d <;> exact h) ⟨hB.drew, i0.drew, i1.drew, i2.drew, i3.drew⟩ (fun w1 hS => ?_)
  clear hB i0 c0 d0 f0 e0 l0 i1 c1 d1 f1 e1 l1 i2 c2 d2 f2 e2 l2 i3 c3 d3 f3 e3 l3
  repeat' (first
    | (refine o_off (a' := ?_) rfl rfl (by rfl) ?_ ?_; rotate_left; (focus (simp only [Act.put, sA, sB, sC, i64_w, i32_w, v0, v1, v2, v3]; rfl)))
    | (refine o_pure (v := ?_) (a' := ?_) rfl rfl (by rfl) ?_ ?_ ?_; rotate_left 2; (focus (intro w'; go_simp; with_reducible rfl)); (focus (simp only [Act.put, sA, sB, sC, i64_w, i32_w, v0, v1, v2, v3]; rfl)))
    | (refine o_loadoff (a' := ?_) rfl rfl (by rfl) hS ?_ ?_; rotate_left; (focus (simp only [Act.put, sA, sB, sC, i64_w, i32_w, v0, v1, v2, v3]; rfl)))
    | (refine o_load (v := ?_) (a' := ?_) rfl rfl (by rfl) hS ?_ ?_ ?_; rotate_left 2; (focus (rintro w' ⟨_, i0, i1, _⟩; have c0 := i0.c0; have d0 := i0.c1; have c1 := i1.c0; have d1 := i1.c1; go_simp; with_reducible rfl)); (focus (simp only [Act.put, sA, sB, sC, i64_w, i32_w, v0, v1, v2, v3]; rfl)))
    | (refine o_one rfl ?_)
    | (refine o_fork2 rfl rfl ?_ ?_)
    | (refine s_off (a' := ?_) rfl (by rfl) hS ?_ ?_; rotate_left; (focus (simp only [Act.put, sA, sB, sC, i64_w, i32_w, v0, v1, v2, v3]; rfl)))
    | (refine s_call (f := 48) (a' := ?_) rfl (by rfl) rfl Try.func48 (by kernel_rfl) rfl (rof_any _ _ _) (by (try simp only [List.map_toArray, List.map_cons, List.map_nil]); first | done | rfl) (fun w' hb => ⟨below_call hS.1 hb, IB.below hS.2.1 hb, IB.below hS.2.2.1 hb, IB.below hS.2.2.2.1 hb, IB.below hS.2.2.2.2 hb⟩) ?_ ?_; rotate_left; (focus (simp only [Act.put, sA, sB, sC, i64_w, i32_w, v0, v1, v2, v3]; rfl)); clear hS; intro w1 hb hS; clear hb)
    | (refine s_call (f := 47) (a' := ?_) rfl (by rfl) rfl Try.func47 (by kernel_rfl) rfl (both_any _ _ _ _ _) (by (try simp only [List.map_toArray, List.map_cons, List.map_nil]); first | done | rfl) (fun w' hb => ⟨below_call hS.1 hb, IB.below hS.2.1 hb, IB.below hS.2.2.1 hb, IB.below hS.2.2.2.1 hb, IB.below hS.2.2.2.2 hb⟩) ?_ ?_; rotate_left; (focus (simp only [Act.put, sA, sB, sC, i64_w, i32_w, v0, v1, v2, v3]; rfl)); clear hS; intro w1 hb hS; clear hb))
  obtain ⟨hB, i0, i1, i2, i3⟩ := hS
  have c0 := i0.c0; have d0 := i0.c1; have c1 := i1.c0; have d1 := i1.c1; have c2 := i2.c0; have d2 := i2.c1; have c3 := i3.c0; have d3 := i3.c1; 
  have f0 := i0.f0 0; have e0 := i0.f0 1
  have f1 := i1.f0 0; have e1 := i1.f0 1
  have f2 := i2.f0 0; have e2 := i2.f0 1
  have f3 := i3.f0 0; have e3 := i3.f0 1
  (refine o_store (w1 := ?_) rfl rfl (by rfl) ?_ ?_; rotate_left; (focus (go_simp; rfl)))
  (refine o_store (w1 := ?_) rfl rfl (by rfl) ?_ ?_; rotate_left; (focus (go_simp; rfl)))
  refine o_done ?_
  go_wp2
  refine bodyPost_ret (v := .tuple #[.agg #[.int .i64 ((bothF (made p (mnI q (s - 1))).1 (made p (mnI q (s - 1))).2 (made (mxI r (p + 1)) s).1 (made (mxI r (p + 1)) s).2).1.1), .int .i64 ((bothF (made p (mnI q (s - 1))).1 (made p (mnI q (s - 1))).2 (made (mxI r (p + 1)) s).1 (made (mxI r (p + 1)) s).2).1.2)], .agg #[.int .i64 ((bothF (made p (mnI q (s - 1))).1 (made p (mnI q (s - 1))).2 (made (mxI r (p + 1)) s).1 (made (mxI r (p + 1)) s).2).2.1), .int .i64 ((bothF (made p (mnI q (s - 1))).1 (made p (mnI q (s - 1))).2 (made (mxI r (p + 1)) s).1 (made (mxI r (p + 1)) s).2).2.2)]]) ?_ rfl ⟨rfl, ?_⟩
  · have k0 := ((IB.far (g' := w.heap.size + 3) (o := 1) (IB.far (g' := w.heap.size + 3) (o := 0) ((i2.set0 ((bothF (made p (mnI q (s - 1))).1 (made p (mnI q (s - 1))).2 (made (mxI r (p + 1)) s).1 (made (mxI r (p + 1)) s).2).1.1)).set1 ((bothF (made p (mnI q (s - 1))).1 (made p (mnI q (s - 1))).2 (made (mxI r (p + 1)) s).1 (made (mxI r (p + 1)) s).2).1.2)) (by omega) (.int .i64 ((bothF (made p (mnI q (s - 1))).1 (made p (mnI q (s - 1))).2 (made (mxI r (p + 1)) s).1 (made (mxI r (p + 1)) s).2).2.1))) (by omega) (.int .i64 ((bothF (made p (mnI q (s - 1))).1 (made p (mnI q (s - 1))).2 (made (mxI r (p + 1)) s).1 (made (mxI r (p + 1)) s).2).2.2)))).c0
    have k1 := ((IB.far (g' := w.heap.size + 3) (o := 1) (IB.far (g' := w.heap.size + 3) (o := 0) ((i2.set0 ((bothF (made p (mnI q (s - 1))).1 (made p (mnI q (s - 1))).2 (made (mxI r (p + 1)) s).1 (made (mxI r (p + 1)) s).2).1.1)).set1 ((bothF (made p (mnI q (s - 1))).1 (made p (mnI q (s - 1))).2 (made (mxI r (p + 1)) s).1 (made (mxI r (p + 1)) s).2).1.2)) (by omega) (.int .i64 ((bothF (made p (mnI q (s - 1))).1 (made p (mnI q (s - 1))).2 (made (mxI r (p + 1)) s).1 (made (mxI r (p + 1)) s).2).2.1))) (by omega) (.int .i64 ((bothF (made p (mnI q (s - 1))).1 (made p (mnI q (s - 1))).2 (made (mxI r (p + 1)) s).1 (made (mxI r (p + 1)) s).2).2.2)))).c1
    have k2 := ((((IB.far (g' := w.heap.size + 2) (o := 1) (IB.far (g' := w.heap.size + 2) (o := 0) i3 (by omega) (.int .i64 ((bothF (made p (mnI q (s - 1))).1 (made p (mnI q (s - 1))).2 (made (mxI r (p + 1)) s).1 (made (mxI r (p + 1)) s).2).1.1))) (by omega) (.int .i64 ((bothF (made p (mnI q (s - 1))).1 (made p (mnI q (s - 1))).2 (made (mxI r (p + 1)) s).1 (made (mxI r (p + 1)) s).2).1.2))).set0 ((bothF (made p (mnI q (s - 1))).1 (made p (mnI q (s - 1))).2 (made (mxI r (p + 1)) s).1 (made (mxI r (p + 1)) s).2).2.1)).set1 ((bothF (made p (mnI q (s - 1))).1 (made p (mnI q (s - 1))).2 (made (mxI r (p + 1)) s).1 (made (mxI r (p + 1)) s).2).2.2))).c0
    have k3 := ((((IB.far (g' := w.heap.size + 2) (o := 1) (IB.far (g' := w.heap.size + 2) (o := 0) i3 (by omega) (.int .i64 ((bothF (made p (mnI q (s - 1))).1 (made p (mnI q (s - 1))).2 (made (mxI r (p + 1)) s).1 (made (mxI r (p + 1)) s).2).1.1))) (by omega) (.int .i64 ((bothF (made p (mnI q (s - 1))).1 (made p (mnI q (s - 1))).2 (made (mxI r (p + 1)) s).1 (made (mxI r (p + 1)) s).2).1.2))).set0 ((bothF (made p (mnI q (s - 1))).1 (made p (mnI q (s - 1))).2 (made (mxI r (p + 1)) s).1 (made (mxI r (p + 1)) s).2).2.1)).set1 ((bothF (made p (mnI q (s - 1))).1 (made p (mnI q (s - 1))).2 (made (mxI r (p + 1)) s).1 (made (mxI r (p + 1)) s).2).2.2))).c1
    simp [results, Try.results26, go_sem, k0, k1, k2, k3]
  · exact below_set (below_set (below_set (below_set hB (by omega) _) (by omega) _) (by omega) _) (by omega) _
theorem rr_11f (a b c d p q r s : Int) (w : World) (hpq : fixP a b = (p, q)) (hrs : fixP c d = (r, s)) (h1 : eqI p q 1 0 = false) (h2 : eqI r s 1 0 = false) (b0 : -2147483648 ≤ p) (b1 : p ≤ 2147483647) (b2 : -2147483648 ≤ q) (b3 : q ≤ 2147483647) (b4 : -2147483648 ≤ r) (b5 : r ≤ 2147483647) (b6 : -2147483648 ≤ s) (b7 : s ≤ 2147483647) :
    Calls Try.prog 26 #[.int .i64 11, .bool false, .agg #[.int .i64 a, .int .i64 b], .agg #[.int .i64 c, .int .i64 d]] w fun e w' => e = .returned (.tuple #[.agg #[.int .i64 ((bothF (made (mxI p r) q).1 (made (mxI p r) q).2 (made r (mnI s q)).1 (made r (mnI s q)).2).1).1, .int .i64 ((bothF (made (mxI p r) q).1 (made (mxI p r) q).2 (made r (mnI s q)).1 (made r (mnI s q)).2).1).2], .agg #[.int .i64 ((bothF (made (mxI p r) q).1 (made (mxI p r) q).2 (made r (mnI s q)).1 (made r (mnI s q)).2).2).1, .int .i64 ((bothF (made (mxI p r) q).1 (made (mxI p r) q).2 (made r (mnI s q)).1 (made r (mnI s q)).2).2).2]]) ∧ Below w.heap.size w w' := by
  have Hpq := Lib.hid hpq; have Hrs := Lib.hid hrs; clear hpq hrs
  have v0 : wrap64 (s - 1) = s - 1 := w64_in (by omega) (by omega)
  have v1 : wrap64 (p + 1) = p + 1 := w64_in (by omega) (by omega)
  have v2 : wrap64 (r + 1) = r + 1 := w64_in (by omega) (by omega)
  have v3 : wrap64 (q - 1) = q - 1 := w64_in (by omega) (by omega)
  go_enter Try.func26, Try.ntmps26
  go_wp2_with fail
  refine o_start (S := (fun w' => Below w.heap.size w w' ∧ IB w' (w.heap.size) (a) (b) ∧ IB w' (w.heap.size + 1) (c) (d) ∧ IB w' (w.heap.size + 2) (0) (0) ∧ IB w' (w.heap.size + 3) (0) (0))) (ds := [4, 5]) (.cons 0 1 (.cons 2 1 (.cons 1 2 (.cons 3 2 (.cons 4 3 (.cons 5 3 .nil)))))) (by kernel_rfl) (by kernel_rfl) (fun _ _ d _ _ h => by cases d <;> exact h) ⟨(((((Below.refl _ _).alloc (Nat.le_refl _) _).alloc (by simp) _).alloc (by simp; omega) _).alloc (by simp; omega) _).drew, ((((IB.new w a b).alloc _).alloc _).alloc _).drew, (((IB.at (by simp) c d).alloc _).alloc _).drew, ((IB.at (by simp) 0 0).alloc _).drew, (IB.at (by simp) 0 0).drew⟩ (fun w1 hS => ?_)
  repeat' (first
    | (refine o_off (a' := ?_) rfl rfl (by rfl) ?_ ?_; rotate_left; (focus (simp only [Act.put, sA, sB, sC, i64_w, i32_w]; rfl)))
    | (refine o_pure (v := ?_) (a' := ?_) rfl rfl (by rfl) ?_ ?_ ?_; rotate_left 2; (focus (intro w'; go_simp; with_reducible rfl)); (focus (simp only [Act.put, sA, sB, sC, i64_w, i32_w]; rfl)))
    | (refine o_loadoff (a' := ?_) rfl rfl (by rfl) hS ?_ ?_; rotate_left; (focus (simp only [Act.put, sA, sB, sC, i64_w, i32_w]; rfl)))
    | (refine o_load (v := ?_) (a' := ?_) rfl rfl (by rfl) hS ?_ ?_ ?_; rotate_left 2; (focus (rintro w' ⟨_, i0, i1, i2, i3⟩; have c0 := i0.c0; have d0 := i0.c1; have c1 := i1.c0; have d1 := i1.c1; have c2 := i2.c0; have d2 := i2.c1; have c3 := i3.c0; have d3 := i3.c1; go_simp; with_reducible rfl)); (focus (simp only [Act.put, sA, sB, sC, i64_w, i32_w]; rfl)))
    | (refine o_one rfl ?_)
    | (refine o_fork2 rfl rfl ?_ ?_)
    | (refine s_off (a' := ?_) rfl (by rfl) hS ?_ ?_; rotate_left; (focus (simp only [Act.put, sA, sB, sC, i64_w, i32_w]; rfl)))
    | (refine s_call (f := 46) (a' := ?_) rfl (by rfl) rfl Try.func46 (by kernel_rfl) rfl (form_as Hpq.out _) (by (try simp only [List.map_toArray, List.map_cons, List.map_nil]); first | done | rfl) (fun w' hb => ⟨below_call hS.1 hb, IB.below hS.2.1 hb, IB.below hS.2.2.1 hb, IB.below hS.2.2.2.1 hb, IB.below hS.2.2.2.2 hb⟩) ?_ ?_; rotate_left; (focus (simp only [Act.put, sA, sB, sC, i64_w, i32_w]; rfl)); clear hS; intro w1 hb hS; clear hb)
    | (refine s_call (f := 46) (a' := ?_) rfl (by rfl) rfl Try.func46 (by kernel_rfl) rfl (form_as Hrs.out _) (by (try simp only [List.map_toArray, List.map_cons, List.map_nil]); first | done | rfl) (fun w' hb => ⟨below_call hS.1 hb, IB.below hS.2.1 hb, IB.below hS.2.2.1 hb, IB.below hS.2.2.2.1 hb, IB.below hS.2.2.2.2 hb⟩) ?_ ?_; rotate_left; (focus (simp only [Act.put, sA, sB, sC, i64_w, i32_w]; rfl)); clear hS; intro w1 hb hS; clear hb))
  obtain ⟨hB, i0, i1, i2, i3⟩ := hS
  have c0 := i0.c0; have d0 := i0.c1; have c1 := i1.c0; have d1 := i1.c1; have c2 := i2.c0; have d2 := i2.c1; have c3 := i3.c0; have d3 := i3.c1; 
  have f0 := i0.f0 0; have e0 := i0.f0 1
  have f1 := i1.f0 0; have e1 := i1.f0 1
  have f2 := i2.f0 0; have e2 := i2.f0 1
  have f3 := i3.f0 0; have e3 := i3.f0 1
  (refine o_store (w1 := ?_) rfl rfl (by rfl) ?_ ?_; rotate_left; (focus (go_simp; rfl)))
  (refine o_store (w1 := ?_) rfl rfl (by rfl) ?_ ?_; rotate_left; (focus (go_simp; rfl)))
  refine o_close (S' := (fun w' => Below w.heap.size w w' ∧ IB w' (w.heap.size) (p) (q) ∧ IB w' (w.heap.size + 1) (r) (s) ∧ IB w' (w.heap.size + 2) (0) (0) ∧ IB w' (w.heap.size + 3) (0) (0))) ⟨below_set (below_set (below_set (below_set hB (by omega) _) (by omega) _) (by omega) _) (by omega) _, ((((i0.set0 p).set1 q).far (by omega) _).far (by omega) _), (((((i1.far (by omega) _).far (by omega) _).set0 r)).set1 s), ((((i2.far (by omega) _).far (by omega) _).far (by omega) _).far (by omega) _), ((((i3.far (by omega) _).far (by omega) _).far (by omega) _).far (by omega) _)⟩ (fun w2 hS => ?_)
  clear i0 c0 d0 f0 e0 i1 c1 d1 f1 e1 i2 c2 d2 f2 e2 i3 c3 d3 f3 e3 hB
  obtain ⟨hB, i0, i1, i2, i3⟩ := hS
  have c0 := i0.c0; have d0 := i0.c1; have c1 := i1.c0; have d1 := i1.c1; have c2 := i2.c0; have d2 := i2.c1; have c3 := i3.c0; have d3 := i3.c1; 
  have f0 := i0.f0 0; have e0 := i0.f0 1
  have f1 := i1.f0 0; have e1 := i1.f0 1
  have f2 := i2.f0 0; have e2 := i2.f0 1
  have f3 := i3.f0 0; have e3 := i3.f0 1
  go_wp2_with fail
  refine o_start (S := (fun w' => Below w.heap.size w w' ∧ IB w' (w.heap.size) (p) (q) ∧ IB w' (w.heap.size + 1) (r) (s) ∧ IB w' (w.heap.size + 2) (0) (0) ∧ IB w' (w.heap.size + 3) (0) (0))) (ds := []) (.cons 0 1 (.cons 1 2 (.cons 2 0 (.cons 3 0 (.cons 4 1 (.cons 5 2 (.cons 6 0 (.cons 7 0 .nil)))))))) (by kernel_rfl) (by kernel_rfl) (fun _ _ d _ _ h => by cases d <;> exact h) ⟨hB.drew, i0.drew, i1.drew, i2.drew, i3.drew⟩ (fun w1 hS => ?_)
  clear hB i0 c0 d0 f0 e0 i1 c1 d1 f1 e1 i2 c2 d2 f2 e2 i3 c3 d3 f3 e3
  repeat' (first
    | (refine o_off (a' := ?_) rfl rfl (by rfl) ?_ ?_; rotate_left; (focus (simp only [Act.put, sA, sB, sC, i64_w, i32_w]; rfl)))
    | (refine o_pure (v := ?_) (a' := ?_) rfl rfl (by rfl) ?_ ?_ ?_; rotate_left 2; (focus (intro w'; go_simp; with_reducible rfl)); (focus (simp only [Act.put, sA, sB, sC, i64_w, i32_w]; rfl)))
    | (refine o_loadoff (a' := ?_) rfl rfl (by rfl) hS ?_ ?_; rotate_left; (focus (simp only [Act.put, sA, sB, sC, i64_w, i32_w]; rfl)))
    | (refine o_load (v := ?_) (a' := ?_) rfl rfl (by rfl) hS ?_ ?_ ?_; rotate_left 2; (focus (rintro w' ⟨_, i0, i1, i2, i3⟩; have c0 := i0.c0; have d0 := i0.c1; have c1 := i1.c0; have d1 := i1.c1; have c2 := i2.c0; have d2 := i2.c1; have c3 := i3.c0; have d3 := i3.c1; go_simp; with_reducible rfl)); (focus (simp only [Act.put, sA, sB, sC, i64_w, i32_w]; rfl)))
    | (refine o_one rfl ?_)
    | (refine o_fork2 rfl rfl ?_ ?_)
    | (refine s_off (a' := ?_) rfl (by rfl) hS ?_ ?_; rotate_left; (focus (simp only [Act.put, sA, sB, sC, i64_w, i32_w]; rfl)))
    | (refine s_call (f := 13) (a' := ?_) rfl (by rfl) rfl Try.func13 (by kernel_rfl) rfl (rnone_any _) (by (try simp only [List.map_toArray, List.map_cons, List.map_nil]); first | done | rfl) (fun w' hb => ⟨below_call hS.1 hb, IB.below hS.2.1 hb, IB.below hS.2.2.1 hb, IB.below hS.2.2.2.1 hb, IB.below hS.2.2.2.2 hb⟩) ?_ ?_; rotate_left; (focus (simp only [Act.put, sA, sB, sC, i64_w, i32_w]; rfl)); clear hS; intro w1 hb hS; clear hb))
  refine o_done ?_
  obtain ⟨hB, i0, i1, i2, i3⟩ := hS
  have c0 := i0.c0; have d0 := i0.c1; have c1 := i1.c0; have d1 := i1.c1; have c2 := i2.c0; have d2 := i2.c1; have c3 := i3.c0; have d3 := i3.c1; 
  have f0 := i0.f0 0; have e0 := i0.f0 1
  have f1 := i1.f0 0; have e1 := i1.f0 1
  have f2 := i2.f0 0; have e2 := i2.f0 1
  have f3 := i3.f0 0; have e3 := i3.f0 1
  have l0 := i0.lt; have l1 := i1.lt; have l2 := i2.lt; have l3 := i3.lt
  go_wp2_with fail
  refine o_start (S := (fun w' => Below w.heap.size w w' ∧ IB w' (w.heap.size) (p) (q) ∧ IB w' (w.heap.size + 1) (r) (s) ∧ IB w' (w.heap.size + 2) (0) (0) ∧ IB w' (w.heap.size + 3) (0) (0))) (ds := [19, 20]) (.cons 0 0 (.cons 1 1 (.cons 2 0 (.cons 3 1 (.cons 4 0 (.cons 5 0 (.cons 6 1 (.cons 8 0 (.cons 9 1 (.cons 10 0 (.cons 11 1 (.cons 12 0 (.cons 13 1 (.cons 14 0 (.cons 7 2 (.cons 15 2 (.cons 16 2 (.cons 17 0 (.cons 18 0 (.cons 19 3 (.cons 20 3 .nil))))))))))))))))))))) (by kernel_rfl) (by kernel_rfl) (fun _ _ d _ _ h => by cases d <;> exact h) ⟨hB.drew, i0.drew, i1.drew, i2.drew, i3.drew⟩ (fun w1 hS => ?_)
  clear hB i0 c0 d0 f0 e0 l0 i1 c1 d1 f1 e1 l1 i2 c2 d2 f2 e2 l2 i3 c3 d3 f3 e3 l3
  repeat' (first
    | (refine o_off (a' := ?_) rfl rfl (by rfl) ?_ ?_; rotate_left; (focus (simp only [Act.put, sA, sB, sC, i64_w, i32_w, v0, v1, v2, v3]; rfl)))
    | (refine o_pure (v := ?_) (a' := ?_) rfl rfl (by rfl) ?_ ?_ ?_; rotate_left 2; (focus (intro w'; go_simp; with_reducible rfl)); (focus (simp only [Act.put, sA, sB, sC, i64_w, i32_w, v0, v1, v2, v3]; rfl)))
    | (refine o_loadoff (a' := ?_) rfl rfl (by rfl) hS ?_ ?_; rotate_left; (focus (simp only [Act.put, sA, sB, sC, i64_w, i32_w, v0, v1, v2, v3]; rfl)))
    | (refine o_load (v := ?_) (a' := ?_) rfl rfl (by rfl) hS ?_ ?_ ?_; rotate_left 2; (focus (rintro w' ⟨_, i0, i1, _⟩; have c0 := i0.c0; have d0 := i0.c1; have c1 := i1.c0; have d1 := i1.c1; go_simp; with_reducible rfl)); (focus (simp only [Act.put, sA, sB, sC, i64_w, i32_w, v0, v1, v2, v3]; rfl)))
    | (refine o_one rfl ?_)
    | (refine o_fork2 rfl rfl ?_ ?_)
    | (refine s_off (a' := ?_) rfl (by rfl) hS ?_ ?_; rotate_left; (focus (simp only [Act.put, sA, sB, sC, i64_w, i32_w, v0, v1, v2, v3]; rfl)))
    | (refine s_call (f := 48) (a' := ?_) rfl (by rfl) rfl Try.func48 (by kernel_rfl) rfl (rof_any _ _ _) (by (try simp only [List.map_toArray, List.map_cons, List.map_nil]); first | done | rfl) (fun w' hb => ⟨below_call hS.1 hb, IB.below hS.2.1 hb, IB.below hS.2.2.1 hb, IB.below hS.2.2.2.1 hb, IB.below hS.2.2.2.2 hb⟩) ?_ ?_; rotate_left; (focus (simp only [Act.put, sA, sB, sC, i64_w, i32_w, v0, v1, v2, v3]; rfl)); clear hS; intro w1 hb hS; clear hb)
    | (refine s_call (f := 47) (a' := ?_) rfl (by rfl) rfl Try.func47 (by kernel_rfl) rfl (both_any _ _ _ _ _) (by (try simp only [List.map_toArray, List.map_cons, List.map_nil]); first | done | rfl) (fun w' hb => ⟨below_call hS.1 hb, IB.below hS.2.1 hb, IB.below hS.2.2.1 hb, IB.below hS.2.2.2.1 hb, IB.below hS.2.2.2.2 hb⟩) ?_ ?_; rotate_left; (focus (simp only [Act.put, sA, sB, sC, i64_w, i32_w, v0, v1, v2, v3]; rfl)); clear hS; intro w1 hb hS; clear hb))
  obtain ⟨hB, i0, i1, i2, i3⟩ := hS
  have c0 := i0.c0; have d0 := i0.c1; have c1 := i1.c0; have d1 := i1.c1; have c2 := i2.c0; have d2 := i2.c1; have c3 := i3.c0; have d3 := i3.c1; 
  have f0 := i0.f0 0; have e0 := i0.f0 1
  have f1 := i1.f0 0; have e1 := i1.f0 1
  have f2 := i2.f0 0; have e2 := i2.f0 1
  have f3 := i3.f0 0; have e3 := i3.f0 1
  (refine o_store (w1 := ?_) rfl rfl (by rfl) ?_ ?_; rotate_left; (focus (go_simp; rfl)))
  (refine o_store (w1 := ?_) rfl rfl (by rfl) ?_ ?_; rotate_left; (focus (go_simp; rfl)))
  refine o_done ?_
  go_wp2
  refine bodyPost_ret (v := .tuple #[.agg #[.int .i64 ((bothF (made (mxI p r) q).1 (made (mxI p r) q).2 (made r (mnI s q)).1 (made r (mnI s q)).2).1.1), .int .i64 ((bothF (made (mxI p r) q).1 (made (mxI p r) q).2 (made r (mnI s q)).1 (made r (mnI s q)).2).1.2)], .agg #[.int .i64 ((bothF (made (mxI p r) q).1 (made (mxI p r) q).2 (made r (mnI s q)).1 (made r (mnI s q)).2).2.1), .int .i64 ((bothF (made (mxI p r) q).1 (made (mxI p r) q).2 (made r (mnI s q)).1 (made r (mnI s q)).2).2.2)]]) ?_ rfl ⟨rfl, ?_⟩
  · have k0 := ((IB.far (g' := w.heap.size + 3) (o := 1) (IB.far (g' := w.heap.size + 3) (o := 0) ((i2.set0 ((bothF (made (mxI p r) q).1 (made (mxI p r) q).2 (made r (mnI s q)).1 (made r (mnI s q)).2).1.1)).set1 ((bothF (made (mxI p r) q).1 (made (mxI p r) q).2 (made r (mnI s q)).1 (made r (mnI s q)).2).1.2)) (by omega) (.int .i64 ((bothF (made (mxI p r) q).1 (made (mxI p r) q).2 (made r (mnI s q)).1 (made r (mnI s q)).2).2.1))) (by omega) (.int .i64 ((bothF (made (mxI p r) q).1 (made (mxI p r) q).2 (made r (mnI s q)).1 (made r (mnI s q)).2).2.2)))).c0
    have k1 := ((IB.far (g' := w.heap.size + 3) (o := 1) (IB.far (g' := w.heap.size + 3) (o := 0) ((i2.set0 ((bothF (made (mxI p r) q).1 (made (mxI p r) q).2 (made r (mnI s q)).1 (made r (mnI s q)).2).1.1)).set1 ((bothF (made (mxI p r) q).1 (made (mxI p r) q).2 (made r (mnI s q)).1 (made r (mnI s q)).2).1.2)) (by omega) (.int .i64 ((bothF (made (mxI p r) q).1 (made (mxI p r) q).2 (made r (mnI s q)).1 (made r (mnI s q)).2).2.1))) (by omega) (.int .i64 ((bothF (made (mxI p r) q).1 (made (mxI p r) q).2 (made r (mnI s q)).1 (made r (mnI s q)).2).2.2)))).c1
    have k2 := ((((IB.far (g' := w.heap.size + 2) (o := 1) (IB.far (g' := w.heap.size + 2) (o := 0) i3 (by omega) (.int .i64 ((bothF (made (mxI p r) q).1 (made (mxI p r) q).2 (made r (mnI s q)).1 (made r (mnI s q)).2).1.1))) (by omega) (.int .i64 ((bothF (made (mxI p r) q).1 (made (mxI p r) q).2 (made r (mnI s q)).1 (made r (mnI s q)).2).1.2))).set0 ((bothF (made (mxI p r) q).1 (made (mxI p r) q).2 (made r (mnI s q)).1 (made r (mnI s q)).2).2.1)).set1 ((bothF (made (mxI p r) q).1 (made (mxI p r) q).2 (made r (mnI s q)).1 (made r (mnI s q)).2).2.2))).c0
    have k3 := ((((IB.far (g' := w.heap.size + 2) (o := 1) (IB.far (g' := w.heap.size + 2) (o := 0) i3 (by omega) (.int .i64 ((bothF (made (mxI p r) q).1 (made (mxI p r) q).2 (made r (mnI s q)).1 (made r (mnI s q)).2).1.1))) (by omega) (.int .i64 ((bothF (made (mxI p r) q).1 (made (mxI p r) q).2 (made r (mnI s q)).1 (made r (mnI s q)).2).1.2))).set0 ((bothF (made (mxI p r) q).1 (made (mxI p r) q).2 (made r (mnI s q)).1 (made r (mnI s q)).2).2.1)).set1 ((bothF (made (mxI p r) q).1 (made (mxI p r) q).2 (made r (mnI s q)).1 (made r (mnI s q)).2).2.2))).c1
    simp [results, Try.results26, go_sem, k0, k1, k2, k3]
  · exact below_set (below_set (below_set (below_set hB (by omega) _) (by omega) _) (by omega) _) (by omega) _
theorem rr_12t (a b c d p q r s : Int) (w : World) (hpq : fixP a b = (p, q)) (hrs : fixP c d = (r, s)) (h1 : eqI p q 1 0 = false) (h2 : eqI r s 1 0 = false) (b0 : -2147483648 ≤ p) (b1 : p ≤ 2147483647) (b2 : -2147483648 ≤ q) (b3 : q ≤ 2147483647) (b4 : -2147483648 ≤ r) (b5 : r ≤ 2147483647) (b6 : -2147483648 ≤ s) (b7 : s ≤ 2147483647) :
    Calls Try.prog 26 #[.int .i64 12, .bool true, .agg #[.int .i64 a, .int .i64 b], .agg #[.int .i64 c, .int .i64 d]] w fun e w' => e = .returned (.tuple #[.agg #[.int .i64 ((bothF (made p (mnI q s)).1 (made p (mnI q s)).2 (made (mxI r p) s).1 (made (mxI r p) s).2).1).1, .int .i64 ((bothF (made p (mnI q s)).1 (made p (mnI q s)).2 (made (mxI r p) s).1 (made (mxI r p) s).2).1).2], .agg #[.int .i64 ((bothF (made p (mnI q s)).1 (made p (mnI q s)).2 (made (mxI r p) s).1 (made (mxI r p) s).2).2).1, .int .i64 ((bothF (made p (mnI q s)).1 (made p (mnI q s)).2 (made (mxI r p) s).1 (made (mxI r p) s).2).2).2]]) ∧ Below w.heap.size w w' := by
  have Hpq := Lib.hid hpq; have Hrs := Lib.hid hrs; clear hpq hrs
  have v0 : wrap64 (s - 1) = s - 1 := w64_in (by omega) (by omega)
  have v1 : wrap64 (p + 1) = p + 1 := w64_in (by omega) (by omega)
  have v2 : wrap64 (r + 1) = r + 1 := w64_in (by omega) (by omega)
  have v3 : wrap64 (q - 1) = q - 1 := w64_in (by omega) (by omega)
  go_enter Try.func26, Try.ntmps26
  go_wp2_with fail
  refine o_start (S := (fun w' => Below w.heap.size w w' ∧ IB w' (w.heap.size) (a) (b) ∧ IB w' (w.heap.size + 1) (c) (d) ∧ IB w' (w.heap.size + 2) (0) (0) ∧ IB w' (w.heap.size + 3) (0) (0))) (ds := [4, 5]) (.cons 0 1 (.cons 2 1 (.cons 1 2 (.cons 3 2 (.cons 4 3 (.cons 5 3 .nil)))))) (by kernel_rfl) (by kernel_rfl) (fun _ _ d _ _ h => by cases d <;> exact h) ⟨(((((Below.refl _ _).alloc (Nat.le_refl _) _).alloc (by simp) _).alloc (by simp; omega) _).alloc (by simp; omega) _).drew, ((((IB.new w a b).alloc _).alloc _).alloc _).drew, (((IB.at (by simp) c d).alloc _).alloc _).drew, ((IB.at (by simp) 0 0).alloc _).drew, (IB.at (by simp) 0 0).drew⟩ (fun w1 hS => ?_)
  repeat' (first
    | (refine o_off (a' := ?_) rfl rfl (by rfl) ?_ ?_; rotate_left; (focus (simp only [Act.put, sA, sB, sC, i64_w, i32_w]; rfl)))
    | (refine o_pure (v := ?_) (a' := ?_) rfl rfl (by rfl) ?_ ?_ ?_; rotate_left 2; (focus (intro w'; go_simp; with_reducible rfl)); (focus (simp only [Act.put, sA, sB, sC, i64_w, i32_w]; rfl)))
    | (refine o_loadoff (a' := ?_) rfl rfl (by rfl) hS ?_ ?_; rotate_left; (focus (simp only [Act.put, sA, sB, sC, i64_w, i32_w]; rfl)))
    | (refine o_load (v := ?_) (a' := ?_) rfl rfl (by rfl) hS ?_ ?_ ?_; rotate_left 2; (focus (rintro w' ⟨_, i0, i1, i2, i3⟩; have c0 := i0.c0; have d0 := i0.c1; have c1 := i1.c0; have d1 := i1.c1; have c2 := i2.c0; have d2 := i2.c1; have c3 := i3.c0; have d3 := i3.c1; go_simp; with_reducible rfl)); (focus (simp only [Act.put, sA, sB, sC, i64_w, i32_w]; rfl)))
    | (refine o_one rfl ?_)
    | (refine o_fork2 rfl rfl ?_ ?_)
    | (refine s_off (a' := ?_) rfl (by rfl) hS ?_ ?_; rotate_left; (focus (simp only [Act.put, sA, sB, sC, i64_w, i32_w]; rfl)))
    | (refine s_call (f := 46) (a' := ?_) rfl (by rfl) rfl Try.func46 (by kernel_rfl) rfl (form_as Hpq.out _) (by (try simp only [List.map_toArray, List.map_cons, List.map_nil]); first | done | rfl) (fun w' hb => ⟨below_call hS.1 hb, IB.below hS.2.1 hb, IB.below hS.2.2.1 hb, IB.below hS.2.2.2.1 hb, IB.below hS.2.2.2.2 hb⟩) ?_ ?_; rotate_left; (focus (simp only [Act.put, sA, sB, sC, i64_w, i32_w]; rfl)); clear hS; intro w1 hb hS; clear hb)
    | (refine s_call (f := 46) (a' := ?_) rfl (by rfl) rfl Try.func46 (by kernel_rfl) rfl (form_as Hrs.out _) (by (try simp only [List.map_toArray, List.map_cons, List.map_nil]); first | done | rfl) (fun w' hb => ⟨below_call hS.1 hb, IB.below hS.2.1 hb, IB.below hS.2.2.1 hb, IB.below hS.2.2.2.1 hb, IB.below hS.2.2.2.2 hb⟩) ?_ ?_; rotate_left; (focus (simp only [Act.put, sA, sB, sC, i64_w, i32_w]; rfl)); clear hS; intro w1 hb hS; clear hb))
  obtain ⟨hB, i0, i1, i2, i3⟩ := hS
  have c0 := i0.c0; have d0 := i0.c1; have c1 := i1.c0; have d1 := i1.c1; have c2 := i2.c0; have d2 := i2.c1; have c3 := i3.c0; have d3 := i3.c1; 
  have f0 := i0.f0 0; have e0 := i0.f0 1
  have f1 := i1.f0 0; have e1 := i1.f0 1
  have f2 := i2.f0 0; have e2 := i2.f0 1
  have f3 := i3.f0 0; have e3 := i3.f0 1
  (refine o_store (w1 := ?_) rfl rfl (by rfl) ?_ ?_; rotate_left; (focus (go_simp; rfl)))
  (refine o_store (w1 := ?_) rfl rfl (by rfl) ?_ ?_; rotate_left; (focus (go_simp; rfl)))
  refine o_close (S' := (fun w' => Below w.heap.size w w' ∧ IB w' (w.heap.size) (p) (q) ∧ IB w' (w.heap.size + 1) (r) (s) ∧ IB w' (w.heap.size + 2) (0) (0) ∧ IB w' (w.heap.size + 3) (0) (0))) ⟨below_set (below_set (below_set (below_set hB (by omega) _) (by omega) _) (by omega) _) (by omega) _, ((((i0.set0 p).set1 q).far (by omega) _).far (by omega) _), (((((i1.far (by omega) _).far (by omega) _).set0 r)).set1 s), ((((i2.far (by omega) _).far (by omega) _).far (by omega) _).far (by omega) _), ((((i3.far (by omega) _).far (by omega) _).far (by omega) _).far (by omega) _)⟩ (fun w2 hS => ?_)
  clear i0 c0 d0 f0 e0 i1 c1 d1 f1 e1 i2 c2 d2 f2 e2 i3 c3 d3 f3 e3 hB
  obtain ⟨hB, i0, i1, i2, i3⟩ := hS
  have c0 := i0.c0; have d0 := i0.c1; have c1 := i1.c0; have d1 := i1.c1; have c2 := i2.c0; have d2 := i2.c1; have c3 := i3.c0; have d3 := i3.c1; 
  have f0 := i0.f0 0; have e0 := i0.f0 1
  have f1 := i1.f0 0; have e1 := i1.f0 1
  have f2 := i2.f0 0; have e2 := i2.f0 1
  have f3 := i3.f0 0; have e3 := i3.f0 1
  go_wp2_with fail
  refine o_start (S := (fun w' => Below w.heap.size w w' ∧ IB w' (w.heap.size) (p) (q) ∧ IB w' (w.heap.size + 1) (r) (s) ∧ IB w' (w.heap.size + 2) (0) (0) ∧ IB w' (w.heap.size + 3) (0) (0))) (ds := []) (.cons 0 1 (.cons 1 2 (.cons 2 0 (.cons 3 0 (.cons 4 1 (.cons 5 2 (.cons 6 0 (.cons 7 0 .nil)))))))) (by kernel_rfl) (by kernel_rfl) (fun _ _ d _ _ h => by cases d <;> exact h) ⟨hB.drew, i0.drew, i1.drew, i2.drew, i3.drew⟩ (fun w1 hS => ?_)
  clear hB i0 c0 d0 f0 e0 i1 c1 d1 f1 e1 i2 c2 d2 f2 e2 i3 c3 d3 f3 e3
  repeat' (first
    | (refine o_off (a' := ?_) rfl rfl (by rfl) ?_ ?_; rotate_left; (focus (simp only [Act.put, sA, sB, sC, i64_w, i32_w]; rfl)))
    | (refine o_pure (v := ?_) (a' := ?_) rfl rfl (by rfl) ?_ ?_ ?_; rotate_left 2; (focus (intro w'; go_simp; with_reducible rfl)); (focus (simp only [Act.put, sA, sB, sC, i64_w, i32_w]; rfl)))
    | (refine o_loadoff (a' := ?_) rfl rfl (by rfl) hS ?_ ?_; rotate_left; (focus (simp only [Act.put, sA, sB, sC, i64_w, i32_w]; rfl)))
    | (refine o_load (v := ?_) (a' := ?_) rfl rfl (by rfl) hS ?_ ?_ ?_; rotate_left 2; (focus (rintro w' ⟨_, i0, i1, i2, i3⟩; have c0 := i0.c0; have d0 := i0.c1; have c1 := i1.c0; have d1 := i1.c1; have c2 := i2.c0; have d2 := i2.c1; have c3 := i3.c0; have d3 := i3.c1; go_simp; with_reducible rfl)); (focus (simp only [Act.put, sA, sB, sC, i64_w, i32_w]; rfl)))
    | (refine o_one rfl ?_)
    | (refine o_fork2 rfl rfl ?_ ?_)
    | (refine s_off (a' := ?_) rfl (by rfl) hS ?_ ?_; rotate_left; (focus (simp only [Act.put, sA, sB, sC, i64_w, i32_w]; rfl)))
    | (refine s_call (f := 13) (a' := ?_) rfl (by rfl) rfl Try.func13 (by kernel_rfl) rfl (rnone_any _) (by (try simp only [List.map_toArray, List.map_cons, List.map_nil]); first | done | rfl) (fun w' hb => ⟨below_call hS.1 hb, IB.below hS.2.1 hb, IB.below hS.2.2.1 hb, IB.below hS.2.2.2.1 hb, IB.below hS.2.2.2.2 hb⟩) ?_ ?_; rotate_left; (focus (simp only [Act.put, sA, sB, sC, i64_w, i32_w]; rfl)); clear hS; intro w1 hb hS; clear hb))
  refine o_done ?_
  obtain ⟨hB, i0, i1, i2, i3⟩ := hS
  have c0 := i0.c0; have d0 := i0.c1; have c1 := i1.c0; have d1 := i1.c1; have c2 := i2.c0; have d2 := i2.c1; have c3 := i3.c0; have d3 := i3.c1; 
  have f0 := i0.f0 0; have e0 := i0.f0 1
  have f1 := i1.f0 0; have e1 := i1.f0 1
  have f2 := i2.f0 0; have e2 := i2.f0 1
  have f3 := i3.f0 0; have e3 := i3.f0 1
  have l0 := i0.lt; have l1 := i1.lt; have l2 := i2.lt; have l3 := i3.lt
  go_wp2_with fail
  refine o_start (S := (fun w' => Below w.heap.size w w' ∧ IB w' (w.heap.size) (p) (q) ∧ IB w' (w.heap.size + 1) (r) (s) ∧ IB w' (w.heap.size + 2) (0) (0) ∧ IB w' (w.heap.size + 3) (0) (0))) (ds := [19, 20]) (.cons 0 0 (.cons 1 1 (.cons 2 0 (.cons 3 1 (.cons 4 0 (.cons 5 1 (.cons 6 0 (.cons 8 0 (.cons 9 1 (.cons 10 0 (.cons 11 1 (.cons 12 0 (.cons 13 0 (.cons 14 1 (.cons 7 2 (.cons 15 2 (.cons 16 2 (.cons 17 0 (.cons 18 0 (.cons 19 3 (.cons 20 3 .nil))))))))))))))))))))) (by kernel_rfl) (by kernel_rfl) (fun _ _ d _ _ h => by cases d <;> exact h) ⟨hB.drew, i0.drew, i1.drew, i2.drew, i3.drew⟩ (fun w1 hS => ?_)
  clear hB i0 c0 d0 f0 e0 l0 i1 c1 d1 f1 e1 l1 i2 c2 d2 f2 e2 l2 i3 c3 d3 f3 e3 l3
  repeat' (first
    | (refine o_off (a' := ?_) rfl rfl (by rfl) ?_ ?_; rotate_left; (focus (simp only [Act.put, sA, sB, sC, i64_w, i32_w, v0, v1, v2, v3]; rfl)))
    | (refine o_pure (v := ?_) (a' := ?_) rfl rfl (by rfl) ?_ ?_ ?_; rotate_left 2; (focus (intro w'; go_simp; with_reducible rfl)); (focus (simp only [Act.put, sA, sB, sC, i64_w, i32_w, v0, v1, v2, v3]; rfl)))
    | (refine o_loadoff (a' := ?_) rfl rfl (by rfl) hS ?_ ?_; rotate_left; (focus (simp only [Act.put, sA, sB, sC, i64_w, i32_w, v0, v1, v2, v3]; rfl)))
    | (refine o_load (v := ?_) (a' := ?_) rfl rfl (by rfl) hS ?_ ?_ ?_; rotate_left 2; (focus (rintro w' ⟨_, i0, i1, _⟩; have c0 := i0.c0; have d0 := i0.c1; have c1 := i1.c0; have d1 := i1.c1; go_simp; with_reducible rfl)); (focus (simp only [Act.put, sA, sB, sC, i64_w, i32_w, v0, v1, v2, v3]; rfl)))
    | (refine o_one rfl ?_)
    | (refine o_fork2 rfl rfl ?_ ?_)
    | (refine s_off (a' := ?_) rfl (by rfl) hS ?_ ?_; rotate_left; (focus (simp only [Act.put, sA, sB, sC, i64_w, i32_w, v0, v1, v2, v3]; rfl)))
    | (refine s_call (f := 48) (a' := ?_) rfl (by rfl) rfl Try.func48 (by kernel_rfl) rfl (rof_any _ _ _) (by (try simp only [List.map_toArray, List.map_cons, List.map_nil]); first | done | rfl) (fun w' hb => ⟨below_call hS.1 hb, IB.below hS.2.1 hb, IB.below hS.2.2.1 hb, IB.below hS.2.2.2.1 hb, IB.below hS.2.2.2.2 hb⟩) ?_ ?_; rotate_left; (focus (simp only [Act.put, sA, sB, sC, i64_w, i32_w, v0, v1, v2, v3]; rfl)); clear hS; intro w1 hb hS; clear hb)
    | (refine s_call (f := 47) (a' := ?_) rfl (by rfl) rfl Try.func47 (by kernel_rfl) rfl (both_any _ _ _ _ _) (by (try simp only [List.map_toArray, List.map_cons, List.map_nil]); first | done | rfl) (fun w' hb => ⟨below_call hS.1 hb, IB.below hS.2.1 hb, IB.below hS.2.2.1 hb, IB.below hS.2.2.2.1 hb, IB.below hS.2.2.2.2 hb⟩) ?_ ?_; rotate_left; (focus (simp only [Act.put, sA, sB, sC, i64_w, i32_w, v0, v1, v2, v3]; rfl)); clear hS; intro w1 hb hS; clear hb))
  obtain ⟨hB, i0, i1, i2, i3⟩ := hS
  have c0 := i0.c0; have d0 := i0.c1; have c1 := i1.c0; have d1 := i1.c1; have c2 := i2.c0; have d2 := i2.c1; have c3 := i3.c0; have d3 := i3.c1; 
  have f0 := i0.f0 0; have e0 := i0.f0 1
  have f1 := i1.f0 0; have e1 := i1.f0 1
  have f2 := i2.f0 0; have e2 := i2.f0 1
  have f3 := i3.f0 0; have e3 := i3.f0 1
  (refine o_store (w1 := ?_) rfl rfl (by rfl) ?_ ?_; rotate_left; (focus (go_simp; rfl)))
  (refine o_store (w1 := ?_) rfl rfl (by rfl) ?_ ?_; rotate_left; (focus (go_simp; rfl)))
  refine o_done ?_
  go_wp2
  refine bodyPost_ret (v := .tuple #[.agg #[.int .i64 ((bothF (made p (mnI q s)).1 (made p (mnI q s)).2 (made (mxI r p) s).1 (made (mxI r p) s).2).1.1), .int .i64 ((bothF (made p (mnI q s)).1 (made p (mnI q s)).2 (made (mxI r p) s).1 (made (mxI r p) s).2).1.2)], .agg #[.int .i64 ((bothF (made p (mnI q s)).1 (made p (mnI q s)).2 (made (mxI r p) s).1 (made (mxI r p) s).2).2.1), .int .i64 ((bothF (made p (mnI q s)).1 (made p (mnI q s)).2 (made (mxI r p) s).1 (made (mxI r p) s).2).2.2)]]) ?_ rfl ⟨rfl, ?_⟩
  · have k0 := ((IB.far (g' := w.heap.size + 3) (o := 1) (IB.far (g' := w.heap.size + 3) (o := 0) ((i2.set0 ((bothF (made p (mnI q s)).1 (made p (mnI q s)).2 (made (mxI r p) s).1 (made (mxI r p) s).2).1.1)).set1 ((bothF (made p (mnI q s)).1 (made p (mnI q s)).2 (made (mxI r p) s).1 (made (mxI r p) s).2).1.2)) (by omega) (.int .i64 ((bothF (made p (mnI q s)).1 (made p (mnI q s)).2 (made (mxI r p) s).1 (made (mxI r p) s).2).2.1))) (by omega) (.int .i64 ((bothF (made p (mnI q s)).1 (made p (mnI q s)).2 (made (mxI r p) s).1 (made (mxI r p) s).2).2.2)))).c0
    have k1 := ((IB.far (g' := w.heap.size + 3) (o := 1) (IB.far (g' := w.heap.size + 3) (o := 0) ((i2.set0 ((bothF (made p (mnI q s)).1 (made p (mnI q s)).2 (made (mxI r p) s).1 (made (mxI r p) s).2).1.1)).set1 ((bothF (made p (mnI q s)).1 (made p (mnI q s)).2 (made (mxI r p) s).1 (made (mxI r p) s).2).1.2)) (by omega) (.int .i64 ((bothF (made p (mnI q s)).1 (made p (mnI q s)).2 (made (mxI r p) s).1 (made (mxI r p) s).2).2.1))) (by omega) (.int .i64 ((bothF (made p (mnI q s)).1 (made p (mnI q s)).2 (made (mxI r p) s).1 (made (mxI r p) s).2).2.2)))).c1
    have k2 := ((((IB.far (g' := w.heap.size + 2) (o := 1) (IB.far (g' := w.heap.size + 2) (o := 0) i3 (by omega) (.int .i64 ((bothF (made p (mnI q s)).1 (made p (mnI q s)).2 (made (mxI r p) s).1 (made (mxI r p) s).2).1.1))) (by omega) (.int .i64 ((bothF (made p (mnI q s)).1 (made p (mnI q s)).2 (made (mxI r p) s).1 (made (mxI r p) s).2).1.2))).set0 ((bothF (made p (mnI q s)).1 (made p (mnI q s)).2 (made (mxI r p) s).1 (made (mxI r p) s).2).2.1)).set1 ((bothF (made p (mnI q s)).1 (made p (mnI q s)).2 (made (mxI r p) s).1 (made (mxI r p) s).2).2.2))).c0
    have k3 := ((((IB.far (g' := w.heap.size + 2) (o := 1) (IB.far (g' := w.heap.size + 2) (o := 0) i3 (by omega) (.int .i64 ((bothF (made p (mnI q s)).1 (made p (mnI q s)).2 (made (mxI r p) s).1 (made (mxI r p) s).2).1.1))) (by omega) (.int .i64 ((bothF (made p (mnI q s)).1 (made p (mnI q s)).2 (made (mxI r p) s).1 (made (mxI r p) s).2).1.2))).set0 ((bothF (made p (mnI q s)).1 (made p (mnI q s)).2 (made (mxI r p) s).1 (made (mxI r p) s).2).2.1)).set1 ((bothF (made p (mnI q s)).1 (made p (mnI q s)).2 (made (mxI r p) s).1 (made (mxI r p) s).2).2.2))).c1
    simp [results, Try.results26, go_sem, k0, k1, k2, k3]
  · exact below_set (below_set (below_set (below_set hB (by omega) _) (by omega) _) (by omega) _) (by omega) _
theorem rr_12f (a b c d p q r s : Int) (w : World) (hpq : fixP a b = (p, q)) (hrs : fixP c d = (r, s)) (h1 : eqI p q 1 0 = false) (h2 : eqI r s 1 0 = false) (b0 : -2147483648 ≤ p) (b1 : p ≤ 2147483647) (b2 : -2147483648 ≤ q) (b3 : q ≤ 2147483647) (b4 : -2147483648 ≤ r) (b5 : r ≤ 2147483647) (b6 : -2147483648 ≤ s) (b7 : s ≤ 2147483647) :
    Calls Try.prog 26 #[.int .i64 12, .bool false, .agg #[.int .i64 a, .int .i64 b], .agg #[.int .i64 c, .int .i64 d]] w fun e w' => e = .returned (.tuple #[.agg #[.int .i64 ((bothF (made (mxI p (r + 1)) q).1 (made (mxI p (r + 1)) q).2 (made r (mnI s (q - 1))).1 (made r (mnI s (q - 1))).2).1).1, .int .i64 ((bothF (made (mxI p (r + 1)) q).1 (made (mxI p (r + 1)) q).2 (made r (mnI s (q - 1))).1 (made r (mnI s (q - 1))).2).1).2], .agg #[.int .i64 ((bothF (made (mxI p (r + 1)) q).1 (made (mxI p (r + 1)) q).2 (made r (mnI s (q - 1))).1 (made r (mnI s (q - 1))).2).2).1, .int .i64 ((bothF (made (mxI p (r + 1)) q).1 (made (mxI p (r + 1)) q).2 (made r (mnI s (q - 1))).1 (made r (mnI s (q - 1))).2).2).2]]) ∧ Below w.heap.size w w' := by
  have Hpq := Lib.hid hpq; have Hrs := Lib.hid hrs; clear hpq hrs
  have v0 : wrap64 (s - 1) = s - 1 := w64_in (by omega) (by omega)
  have v1 : wrap64 (p + 1) = p + 1 := w64_in (by omega) (by omega)
  have v2 : wrap64 (r + 1) = r + 1 := w64_in (by omega) (by omega)
  have v3 : wrap64 (q - 1) = q - 1 := w64_in (by omega) (by omega)
  go_enter Try.func26, Try.ntmps26
  go_wp2_with fail
  refine o_start (S := (fun w' => Below w.heap.size w w' ∧ IB w' (w.heap.size) (a) (b) ∧ IB w' (w.heap.size + 1) (c) (d) ∧ IB w' (w.heap.size + 2) (0) (0) ∧ IB w' (w.heap.size + 3) (0) (0))) (ds := [4, 5]) (.cons 0 1 (.cons 2 1 (.cons 1 2 (.cons 3 2 (.cons 4 3 (.cons 5 3 .nil)))))) (by kernel_rfl) (by kernel_rfl) (fun _ _ d _ _ h => by cases d <;> exact h) ⟨(((((Below.refl _ _).alloc (Nat.le_refl _) _).alloc (by simp) _).alloc (by simp; omega) _).alloc (by simp; omega) _).drew, ((((IB.new w a b).alloc _).alloc _).alloc _).drew, (((IB.at (by simp) c d).alloc _).alloc _).drew, ((IB.at (by simp) 0 0).alloc _).drew, (IB.at (by simp) 0 0).drew⟩ (fun w1 hS => ?_)
  repeat' (first
    | (refine o_off (a' := ?_) rfl rfl (by rfl) ?_ ?_; rotate_left; (focus (simp only [Act.put, sA, sB, sC, i64_w, i32_w]; rfl)))
    | (refine o_pure (v := ?_) (a' := ?_) rfl rfl (by rfl) ?_ ?_ ?_; rotate_left 2; (focus (intro w'; go_simp; with_reducible rfl)); (focus (simp only [Act.put, sA, sB, sC, i64_w, i32_w]; rfl)))
    | (refine o_loadoff (a' := ?_) rfl rfl (by rfl) hS ?_ ?_; rotate_left; (focus (simp only [Act.put, sA, sB, sC, i64_w, i32_w]; rfl)))
    | (refine o_load (v := ?_) (a' := ?_) rfl rfl (by rfl) hS ?_ ?_ ?_; rotate_left 2; (focus (rintro w' ⟨_, i0, i1, i2, i3⟩; have c0 := i0.c0; have d0 := i0.c1; have c1 := i1.c0; have d1 := i1.c1; have c2 := i2.c0; have d2 := i2.c1; have c3 := i3.c0; have d3 := i3.c1; go_simp; with_reducible rfl)); (focus (simp only [Act.put, sA, sB, sC, i64_w, i32_w]; rfl)))
    | (refine o_one rfl ?_)
    | (refine o_fork2 rfl rfl ?_ ?_)
    | (refine s_off (a' := ?_) rfl (by rfl) hS ?_ ?_; rotate_left; (focus (simp only [Act.put, sA, sB, sC, i64_w, i32_w]; rfl)))
    | (refine s_call (f := 46) (a' := ?_) rfl (by rfl) rfl Try.func46 (by kernel_rfl) rfl (form_as Hpq.out _) (by (try simp only [List.map_toArray, List.map_cons, List.map_nil]); first | done | rfl) (fun w' hb => ⟨below_call hS.1 hb, IB.below hS.2.1 hb, IB.below hS.2.2.1 hb, IB.below hS.2.2.2.1 hb, IB.below hS.2.2.2.2 hb⟩) ?_ ?_; rotate_left; (focus (simp only [Act.put, sA, sB, sC, i64_w, i32_w]; rfl)); clear hS; intro w1 hb hS; clear hb)
    | (refine s_call (f := 46) (a' := ?_) rfl (by rfl) rfl Try.func46 (by kernel_rfl) rfl (form_as Hrs.out _) (by (try simp only [List.map_toArray, List.map_cons, List.map_nil]); first | done | rfl) (fun w' hb => ⟨below_call hS.1 hb, IB.below hS.2.1 hb, IB.below hS.2.2.1 hb, IB.below hS.2.2.2.1 hb, IB.below hS.2.2.2.2 hb⟩) ?_ ?_; rotate_left; (focus (simp only [Act.put, sA, sB, sC, i64_w, i32_w]; rfl)); clear hS; intro w1 hb hS; clear hb))
  obtain ⟨hB, i0, i1, i2, i3⟩ := hS
  have c0 := i0.c0; have d0 := i0.c1; have c1 := i1.c0; have d1 := i1.c1; have c2 := i2.c0; have d2 := i2.c1; have c3 := i3.c0; have d3 := i3.c1; 
  have f0 := i0.f0 0; have e0 := i0.f0 1
  have f1 := i1.f0 0; have e1 := i1.f0 1
  have f2 := i2.f0 0; have e2 := i2.f0 1
  have f3 := i3.f0 0; have e3 := i3.f0 1
  (refine o_store (w1 := ?_) rfl rfl (by rfl) ?_ ?_; rotate_left; (focus (go_simp; rfl)))
  (refine o_store (w1 := ?_) rfl rfl (by rfl) ?_ ?_; rotate_left; (focus (go_simp; rfl)))
  refine o_close (S' := (fun w' => Below w.heap.size w w' ∧ IB w' (w.heap.size) (p) (q) ∧ IB w' (w.heap.size + 1) (r) (s) ∧ IB w' (w.heap.size + 2) (0) (0) ∧ IB w' (w.heap.size + 3) (0) (0))) ⟨below_set (below_set (below_set (below_set hB (by omega) _) (by omega) _) (by omega) _) (by omega) _, ((((i0.set0 p).set1 q).far (by omega) _).far (by omega) _), (((((i1.far (by omega) _).far (by omega) _).set0 r)).set1 s), ((((i2.far (by omega) _).far (by omega) _).far (by omega) _).far (by omega) _), ((((i3.far (by omega) _).far (by omega) _).far (by omega) _).far (by omega) _)⟩ (fun w2 hS => ?_)
  clear i0 c0 d0 f0 e0 i1 c1 d1 f1 e1 i2 c2 d2 f2 e2 i3 c3 d3 f3 e3 hB
  obtain ⟨hB, i0, i1, i2, i3⟩ := hS
  have c0 := i0.c0; have d0 := i0.c1; have c1 := i1.c0; have d1 := i1.c1; have c2 := i2.c0; have d2 := i2.c1; have c3 := i3.c0; have d3 := i3.c1; 
  have f0 := i0.f0 0; have e0 := i0.f0 1
  have f1 := i1.f0 0; have e1 := i1.f0 1
  have f2 := i2.f0 0; have e2 := i2.f0 1
  have f3 := i3.f0 0; have e3 := i3.f0 1
  go_wp2_with fail
  refine o_start (S := (fun w' => Below w.heap.size w w' ∧ IB w' (w.heap.size) (p) (q) ∧ IB w' (w.heap.size + 1) (r) (s) ∧ IB w' (w.heap.size + 2) (0) (0) ∧ IB w' (w.heap.size + 3) (0) (0))) (ds := []) (.cons 0 1 (.cons 1 2 (.cons 2 0 (.cons 3 0 (.cons 4 1 (.cons 5 2 (.cons 6 0 (.cons 7 0 .nil)))))))) (by kernel_rfl) (by kernel_rfl) (fun _ _ d _ _ h => by cases d <;> exact h) ⟨hB.drew, i0.drew, i1.drew, i2.drew, i3.drew⟩ (fun w1 hS => ?_)
  clear hB i0 c0 d0 f0 e0 i1 c1 d1 f1 e1 i2 c2 d2 f2 e2 i3 c3 d3 f3 e3
  repeat' (first
    | (refine o_off (a' := ?_) rfl rfl (by rfl) ?_ ?_; rotate_left; (focus (simp only [Act.put, sA, sB, sC, i64_w, i32_w]; rfl)))
    | (refine o_pure (v := ?_) (a' := ?_) rfl rfl (by rfl) ?_ ?_ ?_; rotate_left 2; (focus (intro w'; go_simp; with_reducible rfl)); (focus (simp only [Act.put, sA, sB, sC, i64_w, i32_w]; rfl)))
    | (refine o_loadoff (a' := ?_) rfl rfl (by rfl) hS ?_ ?_; rotate_left; (focus (simp only [Act.put, sA, sB, sC, i64_w, i32_w]; rfl)))
    | (refine o_load (v := ?_) (a' := ?_) rfl rfl (by rfl) hS ?_ ?_ ?_; rotate_left 2; (focus (rintro w' ⟨_, i0, i1, i2, i3⟩; have c0 := i0.c0; have d0 := i0.c1; have c1 := i1.c0; have d1 := i1.c1; have c2 := i2.c0; have d2 := i2.c1; have c3 := i3.c0; have d3 := i3.c1; go_simp; with_reducible rfl)); (focus (simp only [Act.put, sA, sB, sC, i64_w, i32_w]; rfl)))
    | (refine o_one rfl ?_)
    | (refine o_fork2 rfl rfl ?_ ?_)
    | (refine s_off (a' := ?_) rfl (by rfl) hS ?_ ?_; rotate_left; (focus (simp only [Act.put, sA, sB, sC, i64_w, i32_w]; rfl)))
    | (refine s_call (f := 13) (a' := ?_) rfl (by rfl) rfl Try.func13 (by kernel_rfl) rfl (rnone_any _) (by (try simp only [List.map_toArray, List.map_cons, List.map_nil]); first | done | rfl) (fun w' hb => ⟨below_call hS.1 hb, IB.below hS.2.1 hb, IB.below hS.2.2.1 hb, IB.below hS.2.2.2.1 hb, IB.below hS.2.2.2.2 hb⟩) ?_ ?_; rotate_left; (focus (simp only [Act.put, sA, sB, sC, i64_w, i32_w]; rfl)); clear hS; intro w1 hb hS; clear hb))
  refine o_done ?_
  obtain ⟨hB, i0, i1, i2, i3⟩ := hS
  have c0 := i0.c0; have d0 := i0.c1; have c1 := i1.c0; have d1 := i1.c1; have c2 := i2.c0; have d2 := i2.c1; have c3 := i3.c0; have d3 := i3.c1; 
  have f0 := i0.f0 0; have e0 := i0.f0 1
  have f1 := i1.f0 0; have e1 := i1.f0 1
  have f2 := i2.f0 0; have e2 := i2.f0 1
  have f3 := i3.f0 0; have e3 := i3.f0 1
  have l0 := i0.lt; have l1 := i1.lt; have l2 := i2.lt; have l3 := i3.lt
  go_wp2_with fail
  refine o_start (S := (fun w' => Below w.heap.size w w' ∧ IB w' (w.heap.size) (p) (q) ∧ IB w' (w.heap.size + 1) (r) (s) ∧ IB w' (w.heap.size + 2) (0) (0) ∧ IB w' (w.heap.size + 3) (0) (0))) (ds := [21, 22]) (.cons 0 0 (.cons 1 1 (.cons 2 0 (.cons 3 1 (.cons 4 0 (.cons 5 0 (.cons 6 0 (.cons 7 1 (.cons 9 0 (.cons 10 1 (.cons 11 0 (.cons 12 1 (.cons 13 0 (.cons 14 1 (.cons 15 0 (.cons 16 0 (.cons 8 2 (.cons 17 2 (.cons 18 2 (.cons 19 0 (.cons 20 0 (.cons 21 3 (.cons 22 3 .nil))))))))))))))))))))))) (by kernel_rfl) (by kernel_rfl) (fun _ _ d _ _ h => by cases d <;> exact h) ⟨hB.drew, i0.drew, i1.drew, i2.drew, i3.drew⟩ (fun w1 hS => ?_)
  clear hB i0 c0 d0 f0 e0 l0 i1 c1 d1 f1 e1 l1 i2 c2 d2 f2 e2 l2 i3 c3 d3 f3 e3 l3
  repeat' (first
    | (refine o_off (a' := ?_) rfl rfl (by rfl) ?_ ?_; rotate_left; (focus (simp only [Act.put, sA, sB, sC, i64_w, i32_w, v0, v1, v2, v3]; rfl)))
    | (refine o_pure (v := ?_) (a' := ?_) rfl rfl (by rfl) ?_ ?_ ?_; rotate_left 2; (focus (intro w'; go_simp; with_reducible rfl)); (focus (simp only [Act.put, sA, sB, sC, i64_w, i32_w, v0, v1, v2, v3]; rfl)))
    | (refine o_loadoff (a' := ?_) rfl rfl (by rfl) hS ?_ ?_; rotate_left; (focus (simp only [Act.put, sA, sB, sC, i64_w, i32_w, v0, v1, v2, v3]; rfl)))
    | (refine o_load (v := ?_) (a' := ?_) rfl rfl (by rfl) hS ?_ ?_ ?_; rotate_left 2; (focus (rintro w' ⟨_, i0, i1, _⟩; have c0 := i0.c0; have d0 := i0.c1; have c1 := i1.c0; have d1 := i1.c1; go_simp; with_reducible rfl)); (focus (simp only [Act.put, sA, sB, sC, i64_w, i32_w, v0, v1, v2, v3]; rfl)))
    | (refine o_one rfl ?_)
    | (refine o_fork2 rfl rfl ?_ ?_)
    | (refine s_off (a' := ?_) rfl (by rfl) hS ?_ ?_; rotate_left; (focus (simp only [Act.put, sA, sB, sC, i64_w, i32_w, v0, v1, v2, v3]; rfl)))
    | (refine s_call (f := 48) (a' := ?_) rfl (by rfl) rfl Try.func48 (by kernel_rfl) rfl (rof_any _ _ _) (by (try simp only [List.map_toArray, List.map_cons, List.map_nil]); first | done | rfl) (fun w' hb => ⟨below_call hS.1 hb, IB.below hS.2.1 hb, IB.below hS.2.2.1 hb, IB.below hS.2.2.2.1 hb, IB.below hS.2.2.2.2 hb⟩) ?_ ?_; rotate_left; (focus (simp only [Act.put, sA, sB, sC, i64_w, i32_w, v0, v1, v2, v3]; rfl)); clear hS; intro w1 hb hS; clear hb)
    | (refine s_call (f := 47) (a' := ?_) rfl (by rfl) rfl Try.func47 (by kernel_rfl) rfl (both_any _ _ _ _ _) (by (try simp only [List.map_toArray, List.map_cons, List.map_nil]); first | done | rfl) (fun w' hb => ⟨below_call hS.1 hb, IB.below hS.2.1 hb, IB.below hS.2.2.1 hb, IB.below hS.2.2.2.1 hb, IB.below hS.2.2.2.2 hb⟩) ?_ ?_; rotate_left; (focus (simp only [Act.put, sA, sB, sC, i64_w, i32_w, v0, v1, v2, v3]; rfl)); clear hS; intro w1 hb hS; clear hb))
  obtain ⟨hB, i0, i1, i2, i3⟩ := hS
  have c0 := i0.c0; have d0 := i0.c1; have c1 := i1.c0; have d1 := i1.c1; have c2 := i2.c0; have d2 := i2.c1; have c3 := i3.c0; have d3 := i3.c1; 
  have f0 := i0.f0 0; have e0 := i0.f0 1
  have f1 := i1.f0 0; have e1 := i1.f0 1
  have f2 := i2.f0 0; have e2 := i2.f0 1
  have f3 := i3.f0 0; have e3 := i3.f0 1
  (refine o_store (w1 := ?_) rfl rfl (by rfl) ?_ ?_; rotate_left; (focus (go_simp; rfl)))
  (refine o_store (w1 := ?_) rfl rfl (by rfl) ?_ ?_; rotate_left; (focus (go_simp; rfl)))
  refine o_done ?_
  go_wp2
  refine bodyPost_ret (v := .tuple #[.agg #[.int .i64 ((bothF (made (mxI p (r + 1)) q).1 (made (mxI p (r + 1)) q).2 (made r (mnI s (q - 1))).1 (made r (mnI s (q - 1))).2).1.1), .int .i64 ((bothF (made (mxI p (r + 1)) q).1 (made (mxI p (r + 1)) q).2 (made r (mnI s (q - 1))).1 (made r (mnI s (q - 1))).2).1.2)], .agg #[.int .i64 ((bothF (made (mxI p (r + 1)) q).1 (made (mxI p (r + 1)) q).2 (made r (mnI s (q - 1))).1 (made r (mnI s (q - 1))).2).2.1), .int .i64 ((bothF (made (mxI p (r + 1)) q).1 (made (mxI p (r + 1)) q).2 (made r (mnI s (q - 1))).1 (made r (mnI s (q - 1))).2).2.2)]]) ?_ rfl ⟨rfl, ?_⟩
  · have k0 := ((IB.far (g' := w.heap.size + 3) (o := 1) (IB.far (g' := w.heap.size + 3) (o := 0) ((i2.set0 ((bothF (made (mxI p (r + 1)) q).1 (made (mxI p (r + 1)) q).2 (made r (mnI s (q - 1))).1 (made r (mnI s (q - 1))).2).1.1)).set1 ((bothF (made (mxI p (r + 1)) q).1 (made (mxI p (r + 1)) q).2 (made r (mnI s (q - 1))).1 (made r (mnI s (q - 1))).2).1.2)) (by omega) (.int .i64 ((bothF (made (mxI p (r + 1)) q).1 (made (mxI p (r + 1)) q).2 (made r (mnI s (q - 1))).1 (made r (mnI s (q - 1))).2).2.1))) (by omega) (.int .i64 ((bothF (made (mxI p (r + 1)) q).1 (made (mxI p (r + 1)) q).2 (made r (mnI s (q - 1))).1 (made r (mnI s (q - 1))).2).2.2)))).c0
    have k1 := ((IB.far (g' := w.heap.size + 3) (o := 1) (IB.far (g' := w.heap.size + 3) (o := 0) ((i2.set0 ((bothF (made (mxI p (r + 1)) q).1 (made (mxI p (r + 1)) q).2 (made r (mnI s (q - 1))).1 (made r (mnI s (q - 1))).2).1.1)).set1 ((bothF (made (mxI p (r + 1)) q).1 (made (mxI p (r + 1)) q).2 (made r (mnI s (q - 1))).1 (made r (mnI s (q - 1))).2).1.2)) (by omega) (.int .i64 ((bothF (made (mxI p (r + 1)) q).1 (made (mxI p (r + 1)) q).2 (made r (mnI s (q - 1))).1 (made r (mnI s (q - 1))).2).2.1))) (by omega) (.int .i64 ((bothF (made (mxI p (r + 1)) q).1 (made (mxI p (r + 1)) q).2 (made r (mnI s (q - 1))).1 (made r (mnI s (q - 1))).2).2.2)))).c1
    have k2 := ((((IB.far (g' := w.heap.size + 2) (o := 1) (IB.far (g' := w.heap.size + 2) (o := 0) i3 (by omega) (.int .i64 ((bothF (made (mxI p (r + 1)) q).1 (made (mxI p (r + 1)) q).2 (made r (mnI s (q - 1))).1 (made r (mnI s (q - 1))).2).1.1))) (by omega) (.int .i64 ((bothF (made (mxI p (r + 1)) q).1 (made (mxI p (r + 1)) q).2 (made r (mnI s (q - 1))).1 (made r (mnI s (q - 1))).2).1.2))).set0 ((bothF (made (mxI p (r + 1)) q).1 (made (mxI p (r + 1)) q).2 (made r (mnI s (q - 1))).1 (made r (mnI s (q - 1))).2).2.1)).set1 ((bothF (made (mxI p (r + 1)) q).1 (made (mxI p (r + 1)) q).2 (made r (mnI s (q - 1))).1 (made r (mnI s (q - 1))).2).2.2))).c0
    have k3 := ((((IB.far (g' := w.heap.size + 2) (o := 1) (IB.far (g' := w.heap.size + 2) (o := 0) i3 (by omega) (.int .i64 ((bothF (made (mxI p (r + 1)) q).1 (made (mxI p (r + 1)) q).2 (made r (mnI s (q - 1))).1 (made r (mnI s (q - 1))).2).1.1))) (by omega) (.int .i64 ((bothF (made (mxI p (r + 1)) q).1 (made (mxI p (r + 1)) q).2 (made r (mnI s (q - 1))).1 (made r (mnI s (q - 1))).2).1.2))).set0 ((bothF (made (mxI p (r + 1)) q).1 (made (mxI p (r + 1)) q).2 (made r (mnI s (q - 1))).1 (made r (mnI s (q - 1))).2).2.1)).set1 ((bothF (made (mxI p (r + 1)) q).1 (made (mxI p (r + 1)) q).2 (made r (mnI s (q - 1))).1 (made r (mnI s (q - 1))).2).2.2))).c1
    simp [results, Try.results26, go_sem, k0, k1, k2, k3]
  · exact below_set (below_set (below_set (below_set hB (by omega) _) (by omega) _) (by omega) _) (by omega) _
end Go.Proofs.Ytdooadomkifbbaa
