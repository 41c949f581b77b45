/-
  The walks of the reference's Refine, part 1. Conditions: words, as Form gives them.
-/
import Derived.Test.YtdooadomkifbbaaWalksH
import Derived.Test.YtdooadomkifbbaaPlain4
namespace Go.Proofs.Ytdooadomkifbbaa
open Go.RowKit
open Go.Proofs.YtdooadomkifbbaaW.PrintLast
attribute [local go_sem high] eqA23
attribute [local go_sem] max2_i min2_i max_2 min_2 max_4 min_4
set_option maxHeartbeats 2000000
set_option maxRecDepth 100000
set_option linter.unusedSimpArgs false
set_option linter.unusedVariables false
theorem rr_lt (op : Int) (t : Bool) (a b c d p q r s : Int) (w : World) (hpq : fixP a b = (p, q)) (hrs : fixP c d = (r, s)) (h1 : op < 11) :
    Calls Try.prog 26 #[.int .i64 op, .bool t, .agg #[.int .i64 a, .int .i64 b], .agg #[.int .i64 c, .int .i64 d]] w fun e w' => e = .returned (.tuple #[.agg #[.int .i64 p, .int .i64 q], .agg #[.int .i64 r, .int .i64 s]]) ∧ Below w.heap.size w w' := by
  have Hpq := Lib.hid hpq; have Hrs := Lib.hid hrs; clear hpq hrs
  go_enter Try.func26, Try.ntmps26
  go_wp2_with fail
  refine o_start (S := (fun w' => Below w.heap.size w w' ∧ IB w' (w.heap.size) (a) (b) ∧ IB w' (w.heap.size + 1) (c) (d) ∧ IB w' (w.heap.size + 2) (0) (0) ∧ IB w' (w.heap.size + 3) (0) (0))) (ds := [4, 5]) (.cons 0 1 (.cons 2 1 (.cons 1 2 (.cons 3 2 (.cons 4 3 (.cons 5 3 .nil)))))) (by kernel_rfl) (by kernel_rfl) (fun _ _ d _ _ h => by cases d <;> exact h) ⟨(((((Below.refl _ _).alloc (Nat.le_refl _) _).alloc (by simp) _).alloc (by simp; omega) _).alloc (by simp; omega) _).drew, ((((IB.new w a b).alloc _).alloc _).alloc _).drew, (((IB.at (by simp) c d).alloc _).alloc _).drew, ((IB.at (by simp) 0 0).alloc _).drew, (IB.at (by simp) 0 0).drew⟩ (fun w1 hS => ?_)
  repeat' (first
    | (refine o_off (a' := ?_) rfl rfl (by rfl) ?_ ?_; rotate_left; (focus (simp only [Act.put, sA, sB, sC, i64_w, i32_w]; rfl)))
    | (refine o_pure (v := ?_) (a' := ?_) rfl rfl (by rfl) ?_ ?_ ?_; rotate_left 2; (focus (intro w'; go_simp; with_reducible rfl)); (focus (simp only [Act.put, sA, sB, sC, i64_w, i32_w]; rfl)))
    | (refine o_loadoff (a' := ?_) rfl rfl (by rfl) hS ?_ ?_; rotate_left; (focus (simp only [Act.put, sA, sB, sC, i64_w, i32_w]; rfl)))
    | (refine o_load (v := ?_) (a' := ?_) rfl rfl (by rfl) hS ?_ ?_ ?_; rotate_left 2; (focus (rintro w' ⟨_, i0, i1, i2, i3⟩; have c0 := i0.c0; have d0 := i0.c1; have c1 := i1.c0; have d1 := i1.c1; have c2 := i2.c0; have d2 := i2.c1; have c3 := i3.c0; have d3 := i3.c1; go_simp; with_reducible rfl)); (focus (simp only [Act.put, sA, sB, sC, i64_w, i32_w]; rfl)))
    | (refine o_one rfl ?_)
    | (refine o_fork2 rfl rfl ?_ ?_)
    | (refine s_off (a' := ?_) rfl (by rfl) hS ?_ ?_; rotate_left; (focus (simp only [Act.put, sA, sB, sC, i64_w, i32_w]; rfl)))
    | (refine s_call (f := 46) (a' := ?_) rfl (by rfl) rfl Try.func46 (by kernel_rfl) rfl (form_as Hpq.out _) (by (try simp only [List.map_toArray, List.map_cons, List.map_nil]); first | done | rfl) (fun w' hb => ⟨below_call hS.1 hb, IB.below hS.2.1 hb, IB.below hS.2.2.1 hb, IB.below hS.2.2.2.1 hb, IB.below hS.2.2.2.2 hb⟩) ?_ ?_; rotate_left; (focus (simp only [Act.put, sA, sB, sC, i64_w, i32_w]; rfl)); clear hS; intro w1 hb hS; clear hb)
    | (refine s_call (f := 46) (a' := ?_) rfl (by rfl) rfl Try.func46 (by kernel_rfl) rfl (form_as Hrs.out _) (by (try simp only [List.map_toArray, List.map_cons, List.map_nil]); first | done | rfl) (fun w' hb => ⟨below_call hS.1 hb, IB.below hS.2.1 hb, IB.below hS.2.2.1 hb, IB.below hS.2.2.2.1 hb, IB.below hS.2.2.2.2 hb⟩) ?_ ?_; rotate_left; (focus (simp only [Act.put, sA, sB, sC, i64_w, i32_w]; rfl)); clear hS; intro w1 hb hS; clear hb))
  obtain ⟨hB, i0, i1, i2, i3⟩ := hS
  have c0 := i0.c0; have d0 := i0.c1; have c1 := i1.c0; have d1 := i1.c1; have c2 := i2.c0; have d2 := i2.c1; have c3 := i3.c0; have d3 := i3.c1; 
  have f0 := i0.f0 0; have e0 := i0.f0 1
  have f1 := i1.f0 0; have e1 := i1.f0 1
  have f2 := i2.f0 0; have e2 := i2.f0 1
  have f3 := i3.f0 0; have e3 := i3.f0 1
  (refine o_store (w1 := ?_) rfl rfl (by rfl) ?_ ?_; rotate_left; (focus (go_simp; rfl)))
  (refine o_store (w1 := ?_) rfl rfl (by rfl) ?_ ?_; rotate_left; (focus (go_simp; rfl)))
  refine o_close (S' := (fun w' => Below w.heap.size w w' ∧ IB w' (w.heap.size) (p) (q) ∧ IB w' (w.heap.size + 1) (r) (s) ∧ IB w' (w.heap.size + 2) (0) (0) ∧ IB w' (w.heap.size + 3) (0) (0))) ⟨below_set (below_set (below_set (below_set hB (by omega) _) (by omega) _) (by omega) _) (by omega) _, ((((i0.set0 p).set1 q).far (by omega) _).far (by omega) _), (((((i1.far (by omega) _).far (by omega) _).set0 r)).set1 s), ((((i2.far (by omega) _).far (by omega) _).far (by omega) _).far (by omega) _), ((((i3.far (by omega) _).far (by omega) _).far (by omega) _).far (by omega) _)⟩ (fun w2 hS => ?_)
  clear i0 c0 d0 f0 e0 i1 c1 d1 f1 e1 i2 c2 d2 f2 e2 i3 c3 d3 f3 e3 hB
  obtain ⟨hB, i0, i1, i2, i3⟩ := hS
  have c0 := i0.c0; have d0 := i0.c1; have c1 := i1.c0; have d1 := i1.c1; have c2 := i2.c0; have d2 := i2.c1; have c3 := i3.c0; have d3 := i3.c1; 
  have f0 := i0.f0 0; have e0 := i0.f0 1
  have f1 := i1.f0 0; have e1 := i1.f0 1
  have f2 := i2.f0 0; have e2 := i2.f0 1
  have f3 := i3.f0 0; have e3 := i3.f0 1
  go_wp2_with fail
  refine o_start (S := (fun w' => Below w.heap.size w w' ∧ IB w' (w.heap.size) (p) (q) ∧ IB w' (w.heap.size + 1) (r) (s) ∧ EB w' (w.heap.size + 2) ∧ EB w' (w.heap.size + 3))) (ds := []) (.cons 0 1 (.cons 1 1 (.cons 2 2 (.cons 3 2 .nil)))) (by kernel_rfl) (by kernel_rfl) (fun _ _ d _ _ h => by cases d <;> exact h) ⟨hB.drew, i0.drew, i1.drew, ⟨_, _, i2.drew⟩, ⟨_, _, i3.drew⟩⟩ (fun w1 hS => ?_)
  clear hB i0 c0 d0 f0 e0 i1 c1 d1 f1 e1 i2 c2 d2 f2 e2 i3 c3 d3 f3 e3
  repeat' (first
    | (refine o_load (v := ?_) (a' := ?_) rfl rfl (by rfl) hS ?_ ?_ ?_; rotate_left 2; (focus (rintro w' ⟨_, i0, i1, _⟩; have c0 := i0.c0; have d0 := i0.c1; have c1 := i1.c0; have d1 := i1.c1; go_simp; with_reducible rfl)); (focus (simp only [Act.put, sA, sB, sC, i64_w, i32_w]; rfl))))
  obtain ⟨hB, i0, i1, ⟨x2, y2, i2⟩, ⟨x3, y3, i3⟩⟩ := hS
  have c0 := i0.c0; have d0 := i0.c1; have c1 := i1.c0; have d1 := i1.c1; have c2 := i2.c0; have d2 := i2.c1; have c3 := i3.c0; have d3 := i3.c1; 
  have f0 := i0.f0 0; have e0 := i0.f0 1
  have f1 := i1.f0 0; have e1 := i1.f0 1
  have f2 := i2.f0 0; have e2 := i2.f0 1
  have f3 := i3.f0 0; have e3 := i3.f0 1
  refine o_one rfl ?_
  refine s_store (w1 := ?_) rfl (by rfl) ?_ ?_ ?_
  rotate_left
  · go_simp
    rfl
  · exact ⟨below_set (below_set hB (by omega) _) (by omega) _, (IB.far (g' := w.heap.size + 2) (o := 1) (IB.far (g' := w.heap.size + 2) (o := 0) i0 (by omega) (.int .i64 (p))) (by omega) (.int .i64 (q))), (IB.far (g' := w.heap.size + 2) (o := 1) (IB.far (g' := w.heap.size + 2) (o := 0) i1 (by omega) (.int .i64 (p))) (by omega) (.int .i64 (q))), ⟨_, _, (i2.set0 (p)).set1 (q)⟩, ⟨_, _, (IB.far (g' := w.heap.size + 2) (o := 1) (IB.far (g' := w.heap.size + 2) (o := 0) i3 (by omega) (.int .i64 (p))) (by omega) (.int .i64 (q)))⟩⟩
  intro _
  refine o_one rfl ?_
  refine s_store (w1 := ?_) rfl (by rfl) ?_ ?_ ?_
  rotate_left
  · go_simp
    rfl
  · exact ⟨below_set (below_set (below_set (below_set hB (by omega) _) (by omega) _) (by omega) _) (by omega) _, (IB.far (g' := w.heap.size + 3) (o := 1) (IB.far (g' := w.heap.size + 3) (o := 0) (IB.far (g' := w.heap.size + 2) (o := 1) (IB.far (g' := w.heap.size + 2) (o := 0) i0 (by omega) (.int .i64 (p))) (by omega) (.int .i64 (q))) (by omega) (.int .i64 (r))) (by omega) (.int .i64 (s))), (IB.far (g' := w.heap.size + 3) (o := 1) (IB.far (g' := w.heap.size + 3) (o := 0) (IB.far (g' := w.heap.size + 2) (o := 1) (IB.far (g' := w.heap.size + 2) (o := 0) i1 (by omega) (.int .i64 (p))) (by omega) (.int .i64 (q))) (by omega) (.int .i64 (r))) (by omega) (.int .i64 (s))), ⟨_, _, (IB.far (g' := w.heap.size + 3) (o := 1) (IB.far (g' := w.heap.size + 3) (o := 0) ((i2.set0 (p)).set1 (q)) (by omega) (.int .i64 (r))) (by omega) (.int .i64 (s)))⟩, ⟨_, _, ((IB.far (g' := w.heap.size + 2) (o := 1) (IB.far (g' := w.heap.size + 2) (o := 0) i3 (by omega) (.int .i64 (p))) (by omega) (.int .i64 (q))).set0 (r)).set1 (s)⟩⟩
  intro _
  refine o_done ?_
  go_wp2
  refine bodyPost_ret (v := .tuple #[.agg #[.int .i64 (p), .int .i64 (q)], .agg #[.int .i64 (r), .int .i64 (s)]]) ?_ rfl ⟨rfl, ?_⟩
  · have k0 := ((IB.far (g' := w.heap.size + 3) (o := 1) (IB.far (g' := w.heap.size + 3) (o := 0) ((i2.set0 (p)).set1 (q)) (by omega) (.int .i64 (r))) (by omega) (.int .i64 (s)))).c0
    have k1 := ((IB.far (g' := w.heap.size + 3) (o := 1) (IB.far (g' := w.heap.size + 3) (o := 0) ((i2.set0 (p)).set1 (q)) (by omega) (.int .i64 (r))) (by omega) (.int .i64 (s)))).c1
    have k2 := ((((IB.far (g' := w.heap.size + 2) (o := 1) (IB.far (g' := w.heap.size + 2) (o := 0) i3 (by omega) (.int .i64 (p))) (by omega) (.int .i64 (q))).set0 (r)).set1 (s))).c0
    have k3 := ((((IB.far (g' := w.heap.size + 2) (o := 1) (IB.far (g' := w.heap.size + 2) (o := 0) i3 (by omega) (.int .i64 (p))) (by omega) (.int .i64 (q))).set0 (r)).set1 (s))).c1
    simp [results, Try.results26, go_sem, k0, k1, k2, k3]
  · exact below_set (below_set (below_set (below_set hB (by omega) _) (by omega) _) (by omega) _) (by omega) _
theorem rr_gt (op : Int) (t : Bool) (a b c d p q r s : Int) (w : World) (hpq : fixP a b = (p, q)) (hrs : fixP c d = (r, s)) (h1 : ¬ op < 11) (h2 : 14 < op) :
    Calls Try.prog 26 #[.int .i64 op, .bool t, .agg #[.int .i64 a, .int .i64 b], .agg #[.int .i64 c, .int .i64 d]] w fun e w' => e = .returned (.tuple #[.agg #[.int .i64 p, .int .i64 q], .agg #[.int .i64 r, .int .i64 s]]) ∧ Below w.heap.size w w' := by
  have Hpq := Lib.hid hpq; have Hrs := Lib.hid hrs; clear hpq hrs
  go_enter Try.func26, Try.ntmps26
  go_wp2_with fail
  refine o_start (S := (fun w' => Below w.heap.size w w' ∧ IB w' (w.heap.size) (a) (b) ∧ IB w' (w.heap.size + 1) (c) (d) ∧ IB w' (w.heap.size + 2) (0) (0) ∧ IB w' (w.heap.size + 3) (0) (0))) (ds := [4, 5]) (.cons 0 1 (.cons 2 1 (.cons 1 2 (.cons 3 2 (.cons 4 3 (.cons 5 3 .nil)))))) (by kernel_rfl) (by kernel_rfl) (fun _ _ d _ _ h => by cases d <;> exact h) ⟨(((((Below.refl _ _).alloc (Nat.le_refl _) _).alloc (by simp) _).alloc (by simp; omega) _).alloc (by simp; omega) _).drew, ((((IB.new w a b).alloc _).alloc _).alloc _).drew, (((IB.at (by simp) c d).alloc _).alloc _).drew, ((IB.at (by simp) 0 0).alloc _).drew, (IB.at (by simp) 0 0).drew⟩ (fun w1 hS => ?_)
  repeat' (first
    | (refine o_off (a' := ?_) rfl rfl (by rfl) ?_ ?_; rotate_left; (focus (simp only [Act.put, sA, sB, sC, i64_w, i32_w]; rfl)))
    | (refine o_pure (v := ?_) (a' := ?_) rfl rfl (by rfl) ?_ ?_ ?_; rotate_left 2; (focus (intro w'; go_simp; with_reducible rfl)); (focus (simp only [Act.put, sA, sB, sC, i64_w, i32_w]; rfl)))
    | (refine o_loadoff (a' := ?_) rfl rfl (by rfl) hS ?_ ?_; rotate_left; (focus (simp only [Act.put, sA, sB, sC, i64_w, i32_w]; rfl)))
    | (refine o_load (v := ?_) (a' := ?_) rfl rfl (by rfl) hS ?_ ?_ ?_; rotate_left 2; (focus (rintro w' ⟨_, i0, i1, i2, i3⟩; have c0 := i0.c0; have d0 := i0.c1; have c1 := i1.c0; have d1 := i1.c1; have c2 := i2.c0; have d2 := i2.c1; have c3 := i3.c0; have d3 := i3.c1; go_simp; with_reducible rfl)); (focus (simp only [Act.put, sA, sB, sC, i64_w, i32_w]; rfl)))
    | (refine o_one rfl ?_)
    | (refine o_fork2 rfl rfl ?_ ?_)
    | (refine s_off (a' := ?_) rfl (by rfl) hS ?_ ?_; rotate_left; (focus (simp only [Act.put, sA, sB, sC, i64_w, i32_w]; rfl)))
    | (refine s_call (f := 46) (a' := ?_) rfl (by rfl) rfl Try.func46 (by kernel_rfl) rfl (form_as Hpq.out _) (by (try simp only [List.map_toArray, List.map_cons, List.map_nil]); first | done | rfl) (fun w' hb => ⟨below_call hS.1 hb, IB.below hS.2.1 hb, IB.below hS.2.2.1 hb, IB.below hS.2.2.2.1 hb, IB.below hS.2.2.2.2 hb⟩) ?_ ?_; rotate_left; (focus (simp only [Act.put, sA, sB, sC, i64_w, i32_w]; rfl)); clear hS; intro w1 hb hS; clear hb)
    | (refine s_call (f := 46) (a' := ?_) rfl (by rfl) rfl Try.func46 (by kernel_rfl) rfl (form_as Hrs.out _) (by (try simp only [List.map_toArray, List.map_cons, List.map_nil]); first | done | rfl) (fun w' hb => ⟨below_call hS.1 hb, IB.below hS.2.1 hb, IB.below hS.2.2.1 hb, IB.below hS.2.2.2.1 hb, IB.below hS.2.2.2.2 hb⟩) ?_ ?_; rotate_left; (focus (simp only [Act.put, sA, sB, sC, i64_w, i32_w]; rfl)); clear hS; intro w1 hb hS; clear hb))
  obtain ⟨hB, i0, i1, i2, i3⟩ := hS
  have c0 := i0.c0; have d0 := i0.c1; have c1 := i1.c0; have d1 := i1.c1; have c2 := i2.c0; have d2 := i2.c1; have c3 := i3.c0; have d3 := i3.c1; 
  have f0 := i0.f0 0; have e0 := i0.f0 1
  have f1 := i1.f0 0; have e1 := i1.f0 1
  have f2 := i2.f0 0; have e2 := i2.f0 1
  have f3 := i3.f0 0; have e3 := i3.f0 1
  (refine o_store (w1 := ?_) rfl rfl (by rfl) ?_ ?_; rotate_left; (focus (go_simp; rfl)))
  (refine o_store (w1 := ?_) rfl rfl (by rfl) ?_ ?_; rotate_left; (focus (go_simp; rfl)))
  refine o_close (S' := (fun w' => Below w.heap.size w w' ∧ IB w' (w.heap.size) (p) (q) ∧ IB w' (w.heap.size + 1) (r) (s) ∧ IB w' (w.heap.size + 2) (0) (0) ∧ IB w' (w.heap.size + 3) (0) (0))) ⟨below_set (below_set (below_set (below_set hB (by omega) _) (by omega) _) (by omega) _) (by omega) _, ((((i0.set0 p).set1 q).far (by omega) _).far (by omega) _), (((((i1.far (by omega) _).far (by omega) _).set0 r)).set1 s), ((((i2.far (by omega) _).far (by omega) _).far (by omega) _).far (by omega) _), ((((i3.far (by omega) _).far (by omega) _).far (by omega) _).far (by omega) _)⟩ (fun w2 hS => ?_)
  clear i0 c0 d0 f0 e0 i1 c1 d1 f1 e1 i2 c2 d2 f2 e2 i3 c3 d3 f3 e3 hB
  obtain ⟨hB, i0, i1, i2, i3⟩ := hS
  have c0 := i0.c0; have d0 := i0.c1; have c1 := i1.c0; have d1 := i1.c1; have c2 := i2.c0; have d2 := i2.c1; have c3 := i3.c0; have d3 := i3.c1; 
  have f0 := i0.f0 0; have e0 := i0.f0 1
  have f1 := i1.f0 0; have e1 := i1.f0 1
  have f2 := i2.f0 0; have e2 := i2.f0 1
  have f3 := i3.f0 0; have e3 := i3.f0 1
  go_wp2_with fail
  refine o_start (S := (fun w' => Below w.heap.size w w' ∧ IB w' (w.heap.size) (p) (q) ∧ IB w' (w.heap.size + 1) (r) (s) ∧ EB w' (w.heap.size + 2) ∧ EB w' (w.heap.size + 3))) (ds := []) (.cons 0 1 (.cons 1 1 (.cons 2 2 (.cons 3 2 .nil)))) (by kernel_rfl) (by kernel_rfl) (fun _ _ d _ _ h => by cases d <;> exact h) ⟨hB.drew, i0.drew, i1.drew, ⟨_, _, i2.drew⟩, ⟨_, _, i3.drew⟩⟩ (fun w1 hS => ?_)
  clear hB i0 c0 d0 f0 e0 i1 c1 d1 f1 e1 i2 c2 d2 f2 e2 i3 c3 d3 f3 e3
  repeat' (first
    | (refine o_load (v := ?_) (a' := ?_) rfl rfl (by rfl) hS ?_ ?_ ?_; rotate_left 2; (focus (rintro w' ⟨_, i0, i1, _⟩; have c0 := i0.c0; have d0 := i0.c1; have c1 := i1.c0; have d1 := i1.c1; go_simp; with_reducible rfl)); (focus (simp only [Act.put, sA, sB, sC, i64_w, i32_w]; rfl))))
  obtain ⟨hB, i0, i1, ⟨x2, y2, i2⟩, ⟨x3, y3, i3⟩⟩ := hS
  have c0 := i0.c0; have d0 := i0.c1; have c1 := i1.c0; have d1 := i1.c1; have c2 := i2.c0; have d2 := i2.c1; have c3 := i3.c0; have d3 := i3.c1; 
  have f0 := i0.f0 0; have e0 := i0.f0 1
  have f1 := i1.f0 0; have e1 := i1.f0 1
  have f2 := i2.f0 0; have e2 := i2.f0 1
  have f3 := i3.f0 0; have e3 := i3.f0 1
  refine o_one rfl ?_
  refine s_store (w1 := ?_) rfl (by rfl) ?_ ?_ ?_
  rotate_left
  · go_simp
    rfl
  · exact ⟨below_set (below_set hB (by omega) _) (by omega) _, (IB.far (g' := w.heap.size + 2) (o := 1) (IB.far (g' := w.heap.size + 2) (o := 0) i0 (by omega) (.int .i64 (p))) (by omega) (.int .i64 (q))), (IB.far (g' := w.heap.size + 2) (o := 1) (IB.far (g' := w.heap.size + 2) (o := 0) i1 (by omega) (.int .i64 (p))) (by omega) (.int .i64 (q))), ⟨_, _, (i2.set0 (p)).set1 (q)⟩, ⟨_, _, (IB.far (g' := w.heap.size + 2) (o := 1) (IB.far (g' := w.heap.size + 2) (o := 0) i3 (by omega) (.int .i64 (p))) (by omega) (.int .i64 (q)))⟩⟩
  intro _
  refine o_one rfl ?_
  refine s_store (w1 := ?_) rfl (by rfl) ?_ ?_ ?_
  rotate_left
  · go_simp
    rfl
  · exact ⟨below_set (below_set (below_set (below_set hB (by omega) _) (by omega) _) (by omega) _) (by omega) _, (IB.far (g' := w.heap.size + 3) (o := 1) (IB.far (g' := w.heap.size + 3) (o := 0) (IB.far (g' := w.heap.size + 2) (o := 1) (IB.far (g' := w.heap.size + 2) (o := 0) i0 (by omega) (.int .i64 (p))) (by omega) (.int .i64 (q))) (by omega) (.int .i64 (r))) (by omega) (.int .i64 (s))), (IB.far (g' := w.heap.size + 3) (o := 1) (IB.far (g' := w.heap.size + 3) (o := 0) (IB.far (g' := w.heap.size + 2) (o := 1) (IB.far (g' := w.heap.size + 2) (o := 0) i1 (by omega) (.int .i64 (p))) (by omega) (.int .i64 (q))) (by omega) (.int .i64 (r))) (by omega) (.int .i64 (s))), ⟨_, _, (IB.far (g' := w.heap.size + 3) (o := 1) (IB.far (g' := w.heap.size + 3) (o := 0) ((i2.set0 (p)).set1 (q)) (by omega) (.int .i64 (r))) (by omega) (.int .i64 (s)))⟩, ⟨_, _, ((IB.far (g' := w.heap.size + 2) (o := 1) (IB.far (g' := w.heap.size + 2) (o := 0) i3 (by omega) (.int .i64 (p))) (by omega) (.int .i64 (q))).set0 (r)).set1 (s)⟩⟩
  intro _
  refine o_done ?_
  go_wp2
  refine bodyPost_ret (v := .tuple #[.agg #[.int .i64 (p), .int .i64 (q)], .agg #[.int .i64 (r), .int .i64 (s)]]) ?_ rfl ⟨rfl, ?_⟩
  · have k0 := ((IB.far (g' := w.heap.size + 3) (o := 1) (IB.far (g' := w.heap.size + 3) (o := 0) ((i2.set0 (p)).set1 (q)) (by omega) (.int .i64 (r))) (by omega) (.int .i64 (s)))).c0
    have k1 := ((IB.far (g' := w.heap.size + 3) (o := 1) (IB.far (g' := w.heap.size + 3) (o := 0) ((i2.set0 (p)).set1 (q)) (by omega) (.int .i64 (r))) (by omega) (.int .i64 (s)))).c1
    have k2 := ((((IB.far (g' := w.heap.size + 2) (o := 1) (IB.far (g' := w.heap.size + 2) (o := 0) i3 (by omega) (.int .i64 (p))) (by omega) (.int .i64 (q))).set0 (r)).set1 (s))).c0
    have k3 := ((((IB.far (g' := w.heap.size + 2) (o := 1) (IB.far (g' := w.heap.size + 2) (o := 0) i3 (by omega) (.int .i64 (p))) (by omega) (.int .i64 (q))).set0 (r)).set1 (s))).c1
    simp [results, Try.results26, go_sem, k0, k1, k2, k3]
  · exact below_set (below_set (below_set (below_set hB (by omega) _) (by omega) _) (by omega) _) (by omega) _
theorem rr_n1 (op : Int) (t : Bool) (a b c d p q r s : Int) (w : World) (hpq : fixP a b = (p, q)) (hrs : fixP c d = (r, s)) (o1 : ¬ op < 11) (o2 : ¬ 14 < op) (h1 : eqI p q 1 0 = true) :
    Calls Try.prog 26 #[.int .i64 op, .bool t, .agg #[.int .i64 a, .int .i64 b], .agg #[.int .i64 c, .int .i64 d]] w fun e w' => e = .returned (.tuple #[.agg #[.int .i64 1, .int .i64 0], .agg #[.int .i64 1, .int .i64 0]]) ∧ Below w.heap.size w w' := by
  have Hpq := Lib.hid hpq; have Hrs := Lib.hid hrs; clear hpq hrs
  go_enter Try.func26, Try.ntmps26
  go_wp2_with fail
  refine o_start (S := (fun w' => Below w.heap.size w w' ∧ IB w' (w.heap.size) (a) (b) ∧ IB w' (w.heap.size + 1) (c) (d) ∧ IB w' (w.heap.size + 2) (0) (0) ∧ IB w' (w.heap.size + 3) (0) (0))) (ds := [4, 5]) (.cons 0 1 (.cons 2 1 (.cons 1 2 (.cons 3 2 (.cons 4 3 (.cons 5 3 .nil)))))) (by kernel_rfl) (by kernel_rfl) (fun _ _ d _ _ h => by cases d <;> exact h) ⟨(((((Below.refl _ _).alloc (Nat.le_refl _) _).alloc (by simp) _).alloc (by simp; omega) _).alloc (by simp; omega) _).drew, ((((IB.new w a b).alloc _).alloc _).alloc _).drew, (((IB.at (by simp) c d).alloc _).alloc _).drew, ((IB.at (by simp) 0 0).alloc _).drew, (IB.at (by simp) 0 0).drew⟩ (fun w1 hS => ?_)
  repeat' (first
    | (refine o_off (a' := ?_) rfl rfl (by rfl) ?_ ?_; rotate_left; (focus (simp only [Act.put, sA, sB, sC, i64_w, i32_w]; rfl)))
    | (refine o_pure (v := ?_) (a' := ?_) rfl rfl (by rfl) ?_ ?_ ?_; rotate_left 2; (focus (intro w'; go_simp; with_reducible rfl)); (focus (simp only [Act.put, sA, sB, sC, i64_w, i32_w]; rfl)))
    | (refine o_loadoff (a' := ?_) rfl rfl (by rfl) hS ?_ ?_; rotate_left; (focus (simp only [Act.put, sA, sB, sC, i64_w, i32_w]; rfl)))
    | (refine o_load (v := ?_) (a' := ?_) rfl rfl (by rfl) hS ?_ ?_ ?_; rotate_left 2; (focus (rintro w' ⟨_, i0, i1, i2, i3⟩; have c0 := i0.c0; have d0 := i0.c1; have c1 := i1.c0; have d1 := i1.c1; have c2 := i2.c0; have d2 := i2.c1; have c3 := i3.c0; have d3 := i3.c1; go_simp; with_reducible rfl)); (focus (simp only [Act.put, sA, sB, sC, i64_w, i32_w]; rfl)))
    | (refine o_one rfl ?_)
    | (refine o_fork2 rfl rfl ?_ ?_)
    | (refine s_off (a' := ?_) rfl (by rfl) hS ?_ ?_; rotate_left; (focus (simp only [Act.put, sA, sB, sC, i64_w, i32_w]; rfl)))
    | (refine s_call (f := 46) (a' := ?_) rfl (by rfl) rfl Try.func46 (by kernel_rfl) rfl (form_as Hpq.out _) (by (try simp only [List.map_toArray, List.map_cons, List.map_nil]); first | done | rfl) (fun w' hb => ⟨below_call hS.1 hb, IB.below hS.2.1 hb, IB.below hS.2.2.1 hb, IB.below hS.2.2.2.1 hb, IB.below hS.2.2.2.2 hb⟩) ?_ ?_; rotate_left; (focus (simp only [Act.put, sA, sB, sC, i64_w, i32_w]; rfl)); clear hS; intro w1 hb hS; clear hb)
    | (refine s_call (f := 46) (a' := ?_) rfl (by rfl) rfl Try.func46 (by kernel_rfl) rfl (form_as Hrs.out _) (by (try simp only [List.map_toArray, List.map_cons, List.map_nil]); first | done | rfl) (fun w' hb => ⟨below_call hS.1 hb, IB.below hS.2.1 hb, IB.below hS.2.2.1 hb, IB.below hS.2.2.2.1 hb, IB.below hS.2.2.2.2 hb⟩) ?_ ?_; rotate_left; (focus (simp only [Act.put, sA, sB, sC, i64_w, i32_w]; rfl)); clear hS; intro w1 hb hS; clear hb))
  obtain ⟨hB, i0, i1, i2, i3⟩ := hS
  have c0 := i0.c0; have d0 := i0.c1; have c1 := i1.c0; have d1 := i1.c1; have c2 := i2.c0; have d2 := i2.c1; have c3 := i3.c0; have d3 := i3.c1; 
  have f0 := i0.f0 0; have e0 := i0.f0 1
  have f1 := i1.f0 0; have e1 := i1.f0 1
  have f2 := i2.f0 0; have e2 := i2.f0 1
  have f3 := i3.f0 0; have e3 := i3.f0 1
  (refine o_store (w1 := ?_) rfl rfl (by rfl) ?_ ?_; rotate_left; (focus (go_simp; rfl)))
  (refine o_store (w1 := ?_) rfl rfl (by rfl) ?_ ?_; rotate_left; (focus (go_simp; rfl)))
  refine o_close (S' := (fun w' => Below w.heap.size w w' ∧ IB w' (w.heap.size) (p) (q) ∧ IB w' (w.heap.size + 1) (r) (s) ∧ IB w' (w.heap.size + 2) (0) (0) ∧ IB w' (w.heap.size + 3) (0) (0))) ⟨below_set (below_set (below_set (below_set hB (by omega) _) (by omega) _) (by omega) _) (by omega) _, ((((i0.set0 p).set1 q).far (by omega) _).far (by omega) _), (((((i1.far (by omega) _).far (by omega) _).set0 r)).set1 s), ((((i2.far (by omega) _).far (by omega) _).far (by omega) _).far (by omega) _), ((((i3.far (by omega) _).far (by omega) _).far (by omega) _).far (by omega) _)⟩ (fun w2 hS => ?_)
  clear i0 c0 d0 f0 e0 i1 c1 d1 f1 e1 i2 c2 d2 f2 e2 i3 c3 d3 f3 e3 hB
  obtain ⟨hB, i0, i1, i2, i3⟩ := hS
  have c0 := i0.c0; have d0 := i0.c1; have c1 := i1.c0; have d1 := i1.c1; have c2 := i2.c0; have d2 := i2.c1; have c3 := i3.c0; have d3 := i3.c1; 
  have f0 := i0.f0 0; have e0 := i0.f0 1
  have f1 := i1.f0 0; have e1 := i1.f0 1
  have f2 := i2.f0 0; have e2 := i2.f0 1
  have f3 := i3.f0 0; have e3 := i3.f0 1
  go_wp2_with fail
  refine o_start (S := (fun w' => Below w.heap.size w w' ∧ IB w' (w.heap.size) (p) (q) ∧ IB w' (w.heap.size + 1) (r) (s) ∧ IB w' (w.heap.size + 2) (0) (0) ∧ IB w' (w.heap.size + 3) (0) (0))) (ds := []) (.cons 0 1 (.cons 1 2 (.cons 2 0 (.cons 3 0 (.cons 4 1 (.cons 5 2 (.cons 6 0 (.cons 7 0 .nil)))))))) (by kernel_rfl) (by kernel_rfl) (fun _ _ d _ _ h => by cases d <;> exact h) ⟨hB.drew, i0.drew, i1.drew, i2.drew, i3.drew⟩ (fun w1 hS => ?_)
  clear hB i0 c0 d0 f0 e0 i1 c1 d1 f1 e1 i2 c2 d2 f2 e2 i3 c3 d3 f3 e3
  repeat' (first
    | (refine o_off (a' := ?_) rfl rfl (by rfl) ?_ ?_; rotate_left; (focus (simp only [Act.put, sA, sB, sC, i64_w, i32_w]; rfl)))
    | (refine o_pure (v := ?_) (a' := ?_) rfl rfl (by rfl) ?_ ?_ ?_; rotate_left 2; (focus (intro w'; go_simp; with_reducible rfl)); (focus (simp only [Act.put, sA, sB, sC, i64_w, i32_w]; rfl)))
    | (refine o_loadoff (a' := ?_) rfl rfl (by rfl) hS ?_ ?_; rotate_left; (focus (simp only [Act.put, sA, sB, sC, i64_w, i32_w]; rfl)))
    | (refine o_load (v := ?_) (a' := ?_) rfl rfl (by rfl) hS ?_ ?_ ?_; rotate_left 2; (focus (rintro w' ⟨_, i0, i1, i2, i3⟩; have c0 := i0.c0; have d0 := i0.c1; have c1 := i1.c0; have d1 := i1.c1; have c2 := i2.c0; have d2 := i2.c1; have c3 := i3.c0; have d3 := i3.c1; go_simp; with_reducible rfl)); (focus (simp only [Act.put, sA, sB, sC, i64_w, i32_w]; rfl)))
    | (refine o_one rfl ?_)
    | (refine o_fork2 rfl rfl ?_ ?_)
    | (refine s_off (a' := ?_) rfl (by rfl) hS ?_ ?_; rotate_left; (focus (simp only [Act.put, sA, sB, sC, i64_w, i32_w]; rfl)))
    | (refine s_call (f := 13) (a' := ?_) rfl (by rfl) rfl Try.func13 (by kernel_rfl) rfl (rnone_any _) (by (try simp only [List.map_toArray, List.map_cons, List.map_nil]); first | done | rfl) (fun w' hb => ⟨below_call hS.1 hb, IB.below hS.2.1 hb, IB.below hS.2.2.1 hb, IB.below hS.2.2.2.1 hb, IB.below hS.2.2.2.2 hb⟩) ?_ ?_; rotate_left; (focus (simp only [Act.put, sA, sB, sC, i64_w, i32_w]; rfl)); clear hS; intro w1 hb hS; clear hb))
  refine o_done ?_
  obtain ⟨hB, i0, i1, i2, i3⟩ := hS
  have c0 := i0.c0; have d0 := i0.c1; have c1 := i1.c0; have d1 := i1.c1; have c2 := i2.c0; have d2 := i2.c1; have c3 := i3.c0; have d3 := i3.c1; 
  have f0 := i0.f0 0; have e0 := i0.f0 1
  have f1 := i1.f0 0; have e1 := i1.f0 1
  have f2 := i2.f0 0; have e2 := i2.f0 1
  have f3 := i3.f0 0; have e3 := i3.f0 1
  have l0 := i0.lt; have l1 := i1.lt; have l2 := i2.lt; have l3 := i3.lt
  go_wp2_with (go_at_call 13; refine (rnone_any _).mono ?_; rintro e w3 ⟨rfl, hb⟩; replace hB := below_call hB hb; replace i0 := IB.below i0 hb; obtain ⟨c0, d0, f0, e0⟩ := i0.all; replace i1 := IB.below i1 hb; obtain ⟨c1, d1, f1, e1⟩ := i1.all; replace i2 := IB.below i2 hb; obtain ⟨c2, d2, f2, e2⟩ := i2.all; replace i3 := IB.below i3 hb; obtain ⟨c3, d3, f3, e3⟩ := i3.all; clear hb; have l0 := i0.lt; have l1 := i1.lt; have l2 := i2.lt; have l3 := i3.lt)
  refine bodyPost_ret (v := .tuple #[.agg #[.int .i64 (1), .int .i64 (0)], .agg #[.int .i64 (1), .int .i64 (0)]]) ?_ rfl ⟨rfl, ?_⟩
  · have k0 := ((IB.far (g' := w.heap.size + 3) (o := 1) (IB.far (g' := w.heap.size + 3) (o := 0) ((i2.set0 (1)).set1 (0)) (by omega) (.int .i64 (1))) (by omega) (.int .i64 (0)))).c0
    have k1 := ((IB.far (g' := w.heap.size + 3) (o := 1) (IB.far (g' := w.heap.size + 3) (o := 0) ((i2.set0 (1)).set1 (0)) (by omega) (.int .i64 (1))) (by omega) (.int .i64 (0)))).c1
    have k2 := ((((IB.far (g' := w.heap.size + 2) (o := 1) (IB.far (g' := w.heap.size + 2) (o := 0) i3 (by omega) (.int .i64 (1))) (by omega) (.int .i64 (0))).set0 (1)).set1 (0))).c0
    have k3 := ((((IB.far (g' := w.heap.size + 2) (o := 1) (IB.far (g' := w.heap.size + 2) (o := 0) i3 (by omega) (.int .i64 (1))) (by omega) (.int .i64 (0))).set0 (1)).set1 (0))).c1
    simp [results, Try.results26, go_sem, k0, k1, k2, k3]
  · exact below_set (below_set (below_set (below_set hB (by omega) _) (by omega) _) (by omega) _) (by omega) _
theorem rr_n2 (op : Int) (t : Bool) (a b c d p q r s : Int) (w : World) (hpq : fixP a b = (p, q)) (hrs : fixP c d = (r, s)) (o1 : ¬ op < 11) (o2 : ¬ 14 < op) (h1 : eqI p q 1 0 = false) (h2 : eqI r s 1 0 = true) :
    Calls Try.prog 26 #[.int .i64 op, .bool t, .agg #[.int .i64 a, .int .i64 b], .agg #[.int .i64 c, .int .i64 d]] w fun e w' => e = .returned (.tuple #[.agg #[.int .i64 1, .int .i64 0], .agg #[.int .i64 1, .int .i64 0]]) ∧ Below w.heap.size w w' := by
  have Hpq := Lib.hid hpq; have Hrs := Lib.hid hrs; clear hpq hrs
  go_enter Try.func26, Try.ntmps26
  go_wp2_with fail
  refine o_start (S := (fun w' => Below w.heap.size w w' ∧ IB w' (w.heap.size) (a) (b) ∧ IB w' (w.heap.size + 1) (c) (d) ∧ IB w' (w.heap.size + 2) (0) (0) ∧ IB w' (w.heap.size + 3) (0) (0))) (ds := [4, 5]) (.cons 0 1 (.cons 2 1 (.cons 1 2 (.cons 3 2 (.cons 4 3 (.cons 5 3 .nil)))))) (by kernel_rfl) (by kernel_rfl) (fun _ _ d _ _ h => by cases d <;> exact h) ⟨(((((Below.refl _ _).alloc (Nat.le_refl _) _).alloc (by simp) _).alloc (by simp; omega) _).alloc (by simp; omega) _).drew, ((((IB.new w a b).alloc _).alloc _).alloc _).drew, (((IB.at (by simp) c d).alloc _).alloc _).drew, ((IB.at (by simp) 0 0).alloc _).drew, (IB.at (by simp) 0 0).drew⟩ (fun w1 hS => ?_)
  repeat' (first
    | (refine o_off (a' := ?_) rfl rfl (by rfl) ?_ ?_; rotate_left; (focus (simp only [Act.put, sA, sB, sC, i64_w, i32_w]; rfl)))
    | (refine o_pure (v := ?_) (a' := ?_) rfl rfl (by rfl) ?_ ?_ ?_; rotate_left 2; (focus (intro w'; go_simp; with_reducible rfl)); (focus (simp only [Act.put, sA, sB, sC, i64_w, i32_w]; rfl)))
    | (refine o_loadoff (a' := ?_) rfl rfl (by rfl) hS ?_ ?_; rotate_left; (focus (simp only [Act.put, sA, sB, sC, i64_w, i32_w]; rfl)))
    | (refine o_load (v := ?_) (a' := ?_) rfl rfl (by rfl) hS ?_ ?_ ?_; rotate_left 2; (focus (rintro w' ⟨_, i0, i1, i2, i3⟩; have c0 := i0.c0; have d0 := i0.c1; have c1 := i1.c0; have d1 := i1.c1; have c2 := i2.c0; have d2 := i2.c1; have c3 := i3.c0; have d3 := i3.c1; go_simp; with_reducible rfl)); (focus (simp only [Act.put, sA, sB, sC, i64_w, i32_w]; rfl)))
    | (refine o_one rfl ?_)
    | (refine o_fork2 rfl rfl ?_ ?_)
    | (refine s_off (a' := ?_) rfl (by rfl) hS ?_ ?_; rotate_left; (focus (simp only [Act.put, sA, sB, sC, i64_w, i32_w]; rfl)))
    | (refine s_call (f := 46) (a' := ?_) rfl (by rfl) rfl Try.func46 (by kernel_rfl) rfl (form_as Hpq.out _) (by (try simp only [List.map_toArray, List.map_cons, List.map_nil]); first | done | rfl) (fun w' hb => ⟨below_call hS.1 hb, IB.below hS.2.1 hb, IB.below hS.2.2.1 hb, IB.below hS.2.2.2.1 hb, IB.below hS.2.2.2.2 hb⟩) ?_ ?_; rotate_left; (focus (simp only [Act.put, sA, sB, sC, i64_w, i32_w]; rfl)); clear hS; intro w1 hb hS; clear hb)
    | (refine s_call (f := 46) (a' := ?_) rfl (by rfl) rfl Try.func46 (by kernel_rfl) rfl (form_as Hrs.out _) (by (try simp only [List.map_toArray, List.map_cons, List.map_nil]); first | done | rfl) (fun w' hb => ⟨below_call hS.1 hb, IB.below hS.2.1 hb, IB.below hS.2.2.1 hb, IB.below hS.2.2.2.1 hb, IB.below hS.2.2.2.2 hb⟩) ?_ ?_; rotate_left; (focus (simp only [Act.put, sA, sB, sC, i64_w, i32_w]; rfl)); clear hS; intro w1 hb hS; clear hb))
  obtain ⟨hB, i0, i1, i2, i3⟩ := hS
  have c0 := i0.c0; have d0 := i0.c1; have c1 := i1.c0; have d1 := i1.c1; have c2 := i2.c0; have d2 := i2.c1; have c3 := i3.c0; have d3 := i3.c1; 
  have f0 := i0.f0 0; have e0 := i0.f0 1
  have f1 := i1.f0 0; have e1 := i1.f0 1
  have f2 := i2.f0 0; have e2 := i2.f0 1
  have f3 := i3.f0 0; have e3 := i3.f0 1
  (refine o_store (w1 := ?_) rfl rfl (by rfl) ?_ ?_; rotate_left; (focus (go_simp; rfl)))
  (refine o_store (w1 := ?_) rfl rfl (by rfl) ?_ ?_; rotate_left; (focus (go_simp; rfl)))
  refine o_close (S' := (fun w' => Below w.heap.size w w' ∧ IB w' (w.heap.size) (p) (q) ∧ IB w' (w.heap.size + 1) (r) (s) ∧ IB w' (w.heap.size + 2) (0) (0) ∧ IB w' (w.heap.size + 3) (0) (0))) ⟨below_set (below_set (below_set (below_set hB (by omega) _) (by omega) _) (by omega) _) (by omega) _, ((((i0.set0 p).set1 q).far (by omega) _).far (by omega) _), (((((i1.far (by omega) _).far (by omega) _).set0 r)).set1 s), ((((i2.far (by omega) _).far (by omega) _).far (by omega) _).far (by omega) _), ((((i3.far (by omega) _).far (by omega) _).far (by omega) _).far (by omega) _)⟩ (fun w2 hS => ?_)
  clear i0 c0 d0 f0 e0 i1 c1 d1 f1 e1 i2 c2 d2 f2 e2 i3 c3 d3 f3 e3 hB
  obtain ⟨hB, i0, i1, i2, i3⟩ := hS
  have c0 := i0.c0; have d0 := i0.c1; have c1 := i1.c0; have d1 := i1.c1; have c2 := i2.c0; have d2 := i2.c1; have c3 := i3.c0; have d3 := i3.c1; 
  have f0 := i0.f0 0; have e0 := i0.f0 1
  have f1 := i1.f0 0; have e1 := i1.f0 1
  have f2 := i2.f0 0; have e2 := i2.f0 1
  have f3 := i3.f0 0; have e3 := i3.f0 1
  go_wp2_with fail
  refine o_start (S := (fun w' => Below w.heap.size w w' ∧ IB w' (w.heap.size) (p) (q) ∧ IB w' (w.heap.size + 1) (r) (s) ∧ IB w' (w.heap.size + 2) (0) (0) ∧ IB w' (w.heap.size + 3) (0) (0))) (ds := []) (.cons 0 1 (.cons 1 2 (.cons 2 0 (.cons 3 0 (.cons 4 1 (.cons 5 2 (.cons 6 0 (.cons 7 0 .nil)))))))) (by kernel_rfl) (by kernel_rfl) (fun _ _ d _ _ h => by cases d <;> exact h) ⟨hB.drew, i0.drew, i1.drew, i2.drew, i3.drew⟩ (fun w1 hS => ?_)
  clear hB i0 c0 d0 f0 e0 i1 c1 d1 f1 e1 i2 c2 d2 f2 e2 i3 c3 d3 f3 e3
  repeat' (first
    | (refine o_off (a' := ?_) rfl rfl (by rfl) ?_ ?_; rotate_left; (focus (simp only [Act.put, sA, sB, sC, i64_w, i32_w]; rfl)))
    | (refine o_pure (v := ?_) (a' := ?_) rfl rfl (by rfl) ?_ ?_ ?_; rotate_left 2; (focus (intro w'; go_simp; with_reducible rfl)); (focus (simp only [Act.put, sA, sB, sC, i64_w, i32_w]; rfl)))
    | (refine o_loadoff (a' := ?_) rfl rfl (by rfl) hS ?_ ?_; rotate_left; (focus (simp only [Act.put, sA, sB, sC, i64_w, i32_w]; rfl)))
    | (refine o_load (v := ?_) (a' := ?_) rfl rfl (by rfl) hS ?_ ?_ ?_; rotate_left 2; (focus (rintro w' ⟨_, i0, i1, i2, i3⟩; have c0 := i0.c0; have d0 := i0.c1; have c1 := i1.c0; have d1 := i1.c1; have c2 := i2.c0; have d2 := i2.c1; have c3 := i3.c0; have d3 := i3.c1; go_simp; with_reducible rfl)); (focus (simp only [Act.put, sA, sB, sC, i64_w, i32_w]; rfl)))
    | (refine o_one rfl ?_)
    | (refine o_fork2 rfl rfl ?_ ?_)
    | (refine s_off (a' := ?_) rfl (by rfl) hS ?_ ?_; rotate_left; (focus (simp only [Act.put, sA, sB, sC, i64_w, i32_w]; rfl)))
    | (refine s_call (f := 13) (a' := ?_) rfl (by rfl) rfl Try.func13 (by kernel_rfl) rfl (rnone_any _) (by (try simp only [List.map_toArray, List.map_cons, List.map_nil]); first | done | rfl) (fun w' hb => ⟨below_call hS.1 hb, IB.below hS.2.1 hb, IB.below hS.2.2.1 hb, IB.below hS.2.2.2.1 hb, IB.below hS.2.2.2.2 hb⟩) ?_ ?_; rotate_left; (focus (simp only [Act.put, sA, sB, sC, i64_w, i32_w]; rfl)); clear hS; intro w1 hb hS; clear hb))
  refine o_done ?_
  obtain ⟨hB, i0, i1, i2, i3⟩ := hS
  have c0 := i0.c0; have d0 := i0.c1; have c1 := i1.c0; have d1 := i1.c1; have c2 := i2.c0; have d2 := i2.c1; have c3 := i3.c0; have d3 := i3.c1; 
  have f0 := i0.f0 0; have e0 := i0.f0 1
  have f1 := i1.f0 0; have e1 := i1.f0 1
  have f2 := i2.f0 0; have e2 := i2.f0 1
  have f3 := i3.f0 0; have e3 := i3.f0 1
  have l0 := i0.lt; have l1 := i1.lt; have l2 := i2.lt; have l3 := i3.lt
  go_wp2_with (go_at_call 13; refine (rnone_any _).mono ?_; rintro e w3 ⟨rfl, hb⟩; replace hB := below_call hB hb; replace i0 := IB.below i0 hb; obtain ⟨c0, d0, f0, e0⟩ := i0.all; replace i1 := IB.below i1 hb; obtain ⟨c1, d1, f1, e1⟩ := i1.all; replace i2 := IB.below i2 hb; obtain ⟨c2, d2, f2, e2⟩ := i2.all; replace i3 := IB.below i3 hb; obtain ⟨c3, d3, f3, e3⟩ := i3.all; clear hb; have l0 := i0.lt; have l1 := i1.lt; have l2 := i2.lt; have l3 := i3.lt)
  refine bodyPost_ret (v := .tuple #[.agg #[.int .i64 (1), .int .i64 (0)], .agg #[.int .i64 (1), .int .i64 (0)]]) ?_ rfl ⟨rfl, ?_⟩
  · have k0 := ((IB.far (g' := w.heap.size + 3) (o := 1) (IB.far (g' := w.heap.size + 3) (o := 0) ((i2.set0 (1)).set1 (0)) (by omega) (.int .i64 (1))) (by omega) (.int .i64 (0)))).c0
    have k1 := ((IB.far (g' := w.heap.size + 3) (o := 1) (IB.far (g' := w.heap.size + 3) (o := 0) ((i2.set0 (1)).set1 (0)) (by omega) (.int .i64 (1))) (by omega) (.int .i64 (0)))).c1
    have k2 := ((((IB.far (g' := w.heap.size + 2) (o := 1) (IB.far (g' := w.heap.size + 2) (o := 0) i3 (by omega) (.int .i64 (1))) (by omega) (.int .i64 (0))).set0 (1)).set1 (0))).c0
    have k3 := ((((IB.far (g' := w.heap.size + 2) (o := 1) (IB.far (g' := w.heap.size + 2) (o := 0) i3 (by omega) (.int .i64 (1))) (by omega) (.int .i64 (0))).set0 (1)).set1 (0))).c1
    simp [results, Try.results26, go_sem, k0, k1, k2, k3]
  · exact below_set (below_set (below_set (below_set hB (by omega) _) (by omega) _) (by omega) _) (by omega) _
theorem rr_13f (a b c d p q r s : Int) (w : World) (hpq : fixP a b = (p, q)) (hrs : fixP c d = (r, s)) (h1 : eqI p q 1 0 = false) (h2 : eqI r s 1 0 = false) (b0 : -2147483648 ≤ p) (b1 : p ≤ 2147483647) (b2 : -2147483648 ≤ q) (b3 : q ≤ 2147483647) (b4 : -2147483648 ≤ r) (b5 : r ≤ 2147483647) (b6 : -2147483648 ≤ s) (b7 : s ≤ 2147483647) :
    Calls Try.prog 26 #[.int .i64 13, .bool false, .agg #[.int .i64 a, .int .i64 b], .agg #[.int .i64 c, .int .i64 d]] w fun e w' => e = .returned (.tuple #[.agg #[.int .i64 ((bothF (butF p q r s).1 (butF p q r s).2 (butF r s p q).1 (butF r s p q).2).1).1, .int .i64 ((bothF (butF p q r s).1 (butF p q r s).2 (butF r s p q).1 (butF r s p q).2).1).2], .agg #[.int .i64 ((bothF (butF p q r s).1 (butF p q r s).2 (butF r s p q).1 (butF r s p q).2).2).1, .int .i64 ((bothF (butF p q r s).1 (butF p q r s).2 (butF r s p q).1 (butF r s p q).2).2).2]]) ∧ Below w.heap.size w w' := by
  have Hpq := Lib.hid hpq; have Hrs := Lib.hid hrs; clear hpq hrs
  have v0 : wrap64 (s - 1) = s - 1 := w64_in (by omega) (by omega)
  have v1 : wrap64 (p + 1) = p + 1 := w64_in (by omega) (by omega)
  have v2 : wrap64 (r + 1) = r + 1 := w64_in (by omega) (by omega)
  have v3 : wrap64 (q - 1) = q - 1 := w64_in (by omega) (by omega)
  go_enter Try.func26, Try.ntmps26
  go_wp2_with fail
  refine o_start (S := (fun w' => Below w.heap.size w w' ∧ IB w' (w.heap.size) (a) (b) ∧ IB w' (w.heap.size + 1) (c) (d) ∧ IB w' (w.heap.size + 2) (0) (0) ∧ IB w' (w.heap.size + 3) (0) (0))) (ds := [4, 5]) (.cons 0 1 (.cons 2 1 (.cons 1 2 (.cons 3 2 (.cons 4 3 (.cons 5 3 .nil)))))) (by kernel_rfl) (by kernel_rfl) (fun _ _ d _ _ h => by cases d <;> exact h) ⟨(((((Below.refl _ _).alloc (Nat.le_refl _) _).alloc (by simp) _).alloc (by simp; omega) _).alloc (by simp; omega) _).drew, ((((IB.new w a b).alloc _).alloc _).alloc _).drew, (((IB.at (by simp) c d).alloc _).alloc _).drew, ((IB.at (by simp) 0 0).alloc _).drew, (IB.at (by simp) 0 0).drew⟩ (fun w1 hS => ?_)
  repeat' (first
    | (refine o_off (a' := ?_) rfl rfl (by rfl) ?_ ?_; rotate_left; (focus (simp only [Act.put, sA, sB, sC, i64_w, i32_w]; rfl)))
    | (refine o_pure (v := ?_) (a' := ?_) rfl rfl (by rfl) ?_ ?_ ?_; rotate_left 2; (focus (intro w'; go_simp; with_reducible rfl)); (focus (simp only [Act.put, sA, sB, sC, i64_w, i32_w]; rfl)))
    | (refine o_loadoff (a' := ?_) rfl rfl (by rfl) hS ?_ ?_; rotate_left; (focus (simp only [Act.put, sA, sB, sC, i64_w, i32_w]; rfl)))
    | (refine o_load (v := ?_) (a' := ?_) rfl rfl (by rfl) hS ?_ ?_ ?_; rotate_left 2; (focus (rintro w' ⟨_, i0, i1, i2, i3⟩; have c0 := i0.c0; have d0 := i0.c1; have c1 := i1.c0; have d1 := i1.c1; have c2 := i2.c0; have d2 := i2.c1; have c3 := i3.c0; have d3 := i3.c1; go_simp; with_reducible rfl)); (focus (simp only [Act.put, sA, sB, sC, i64_w, i32_w]; rfl)))
    | (refine o_one rfl ?_)
    | (refine o_fork2 rfl rfl ?_ ?_)
    | (refine s_off (a' := ?_) rfl (by rfl) hS ?_ ?_; rotate_left; (focus (simp only [Act.put, sA, sB, sC, i64_w, i32_w]; rfl)))
    | (refine s_call (f := 46) (a' := ?_) rfl (by rfl) rfl Try.func46 (by kernel_rfl) rfl (form_as Hpq.out _) (by (try simp only [List.map_toArray, List.map_cons, List.map_nil]); first | done | rfl) (fun w' hb => ⟨below_call hS.1 hb, IB.below hS.2.1 hb, IB.below hS.2.2.1 hb, IB.below hS.2.2.2.1 hb, IB.below hS.2.2.2.2 hb⟩) ?_ ?_; rotate_left; (focus (simp only [Act.put, sA, sB, sC, i64_w, i32_w]; rfl)); clear hS; intro w1 hb hS; clear hb)
    | (refine s_call (f := 46) (a' := ?_) rfl (by rfl) rfl Try.func46 (by kernel_rfl) rfl (form_as Hrs.out _) (by (try simp only [List.map_toArray, List.map_cons, List.map_nil]); first | done | rfl) (fun w' hb => ⟨below_call hS.1 hb, IB.below hS.2.1 hb, IB.below hS.2.2.1 hb, IB.below hS.2.2.2.1 hb, IB.below hS.2.2.2.2 hb⟩) ?_ ?_; rotate_left; (focus (simp only [Act.put, sA, sB, sC, i64_w, i32_w]; rfl)); clear hS; intro w1 hb hS; clear hb))
  obtain ⟨hB, i0, i1, i2, i3⟩ := hS
  have c0 := i0.c0; have d0 := i0.c1; have c1 := i1.c0; have d1 := i1.c1; have c2 := i2.c0; have d2 := i2.c1; have c3 := i3.c0; have d3 := i3.c1; 
  have f0 := i0.f0 0; have e0 := i0.f0 1
  have f1 := i1.f0 0; have e1 := i1.f0 1
  have f2 := i2.f0 0; have e2 := i2.f0 1
  have f3 := i3.f0 0; have e3 := i3.f0 1
  (refine o_store (w1 := ?_) rfl rfl (by rfl) ?_ ?_; rotate_left; (focus (go_simp; rfl)))
  (refine o_store (w1 := ?_) rfl rfl (by rfl) ?_ ?_; rotate_left; (focus (go_simp; rfl)))
  refine o_close (S' := (fun w' => Below w.heap.size w w' ∧ IB w' (w.heap.size) (p) (q) ∧ IB w' (w.heap.size + 1) (r) (s) ∧ IB w' (w.heap.size + 2) (0) (0) ∧ IB w' (w.heap.size + 3) (0) (0))) ⟨below_set (below_set (below_set (below_set hB (by omega) _) (by omega) _) (by omega) _) (by omega) _, ((((i0.set0 p).set1 q).far (by omega) _).far (by omega) _), (((((i1.far (by omega) _).far (by omega) _).set0 r)).set1 s), ((((i2.far (by omega) _).far (by omega) _).far (by omega) _).far (by omega) _), ((((i3.far (by omega) _).far (by omega) _).far (by omega) _).far (by omega) _)⟩ (fun w2 hS => ?_)
  clear i0 c0 d0 f0 e0 i1 c1 d1 f1 e1 i2 c2 d2 f2 e2 i3 c3 d3 f3 e3 hB
  obtain ⟨hB, i0, i1, i2, i3⟩ := hS
  have c0 := i0.c0; have d0 := i0.c1; have c1 := i1.c0; have d1 := i1.c1; have c2 := i2.c0; have d2 := i2.c1; have c3 := i3.c0; have d3 := i3.c1; 
  have f0 := i0.f0 0; have e0 := i0.f0 1
  have f1 := i1.f0 0; have e1 := i1.f0 1
  have f2 := i2.f0 0; have e2 := i2.f0 1
  have f3 := i3.f0 0; have e3 := i3.f0 1
  go_wp2_with fail
  refine o_start (S := (fun w' => Below w.heap.size w w' ∧ IB w' (w.heap.size) (p) (q) ∧ IB w' (w.heap.size + 1) (r) (s) ∧ IB w' (w.heap.size + 2) (0) (0) ∧ IB w' (w.heap.size + 3) (0) (0))) (ds := []) (.cons 0 1 (.cons 1 2 (.cons 2 0 (.cons 3 0 (.cons 4 1 (.cons 5 2 (.cons 6 0 (.cons 7 0 .nil)))))))) (by kernel_rfl) (by kernel_rfl) (fun _ _ d _ _ h => by cases d <;> exact h) ⟨hB.drew, i0.drew, i1.drew, i2.drew, i3.drew⟩ (fun w1 hS => ?_)
  clear hB i0 c0 d0 f0 e0 i1 c1 d1 f1 e1 i2 c2 d2 f2 e2 i3 c3 d3 f3 e3
  repeat' (first
    | (refine o_off (a' := ?_) rfl rfl (by rfl) ?_ ?_; rotate_left; (focus (simp only [Act.put, sA, sB, sC, i64_w, i32_w]; rfl)))
    | (refine o_pure (v := ?_) (a' := ?_) rfl rfl (by rfl) ?_ ?_ ?_; rotate_left 2; (focus (intro w'; go_simp; with_reducible rfl)); (focus (simp only [Act.put, sA, sB, sC, i64_w, i32_w]; rfl)))
    | (refine o_loadoff (a' := ?_) rfl rfl (by rfl) hS ?_ ?_; rotate_left; (focus (simp only [Act.put, sA, sB, sC, i64_w, i32_w]; rfl)))
    | (refine o_load (v := ?_) (a' := ?_) rfl rfl (by rfl) hS ?_ ?_ ?_; rotate_left 2; (focus (rintro w' ⟨_, i0, i1, i2, i3⟩; have c0 := i0.c0; have d0 := i0.c1; have c1 := i1.c0; have d1 := i1.c1; have c2 := i2.c0; have d2 := i2.c1; have c3 := i3.c0; have d3 := i3.c1; go_simp; with_reducible rfl)); (focus (simp only [Act.put, sA, sB, sC, i64_w, i32_w]; rfl)))
    | (refine o_one rfl ?_)
    | (refine o_fork2 rfl rfl ?_ ?_)
    | (refine s_off (a' := ?_) rfl (by rfl) hS ?_ ?_; rotate_left; (focus (simp only [Act.put, sA, sB, sC, i64_w, i32_w]; rfl)))
    | (refine s_call (f := 13) (a' := ?_) rfl (by rfl) rfl Try.func13 (by kernel_rfl) rfl (rnone_any _) (by (try simp only [List.map_toArray, List.map_cons, List.map_nil]); first | done | rfl) (fun w' hb => ⟨below_call hS.1 hb, IB.below hS.2.1 hb, IB.below hS.2.2.1 hb, IB.below hS.2.2.2.1 hb, IB.below hS.2.2.2.2 hb⟩) ?_ ?_; rotate_left; (focus (simp only [Act.put, sA, sB, sC, i64_w, i32_w]; rfl)); clear hS; intro w1 hb hS; clear hb))
  refine o_done ?_
  obtain ⟨hB, i0, i1, i2, i3⟩ := hS
  have c0 := i0.c0; have d0 := i0.c1; have c1 := i1.c0; have d1 := i1.c1; have c2 := i2.c0; have d2 := i2.c1; have c3 := i3.c0; have d3 := i3.c1; 
  have f0 := i0.f0 0; have e0 := i0.f0 1
  have f1 := i1.f0 0; have e1 := i1.f0 1
  have f2 := i2.f0 0; have e2 := i2.f0 1
  have f3 := i3.f0 0; have e3 := i3.f0 1
  have l0 := i0.lt; have l1 := i1.lt; have l2 := i2.lt; have l3 := i3.lt
  go_wp2_with fail
  refine o_start (S := (fun w' => Below w.heap.size w w' ∧ IB w' (w.heap.size) (p) (q) ∧ IB w' (w.heap.size + 1) (r) (s) ∧ IB w' (w.heap.size + 2) (0) (0) ∧ IB w' (w.heap.size + 3) (0) (0))) (ds := [9, 10]) (.cons 0 1 (.cons 1 1 (.cons 3 1 (.cons 4 1 (.cons 2 2 (.cons 5 2 (.cons 6 2 (.cons 7 0 (.cons 8 0 (.cons 9 3 (.cons 10 3 .nil))))))))))) (by kernel_rfl) (by kernel_rfl) (fun _ _ d _ _ h => by cases d <;> exact h) ⟨hB.drew, i0.drew, i1.drew, i2.drew, i3.drew⟩ (fun w1 hS => ?_)
  clear hB i0 c0 d0 f0 e0 l0 i1 c1 d1 f1 e1 l1 i2 c2 d2 f2 e2 l2 i3 c3 d3 f3 e3 l3
  repeat' (first
    | (refine o_off (a' := ?_) rfl rfl (by rfl) ?_ ?_; rotate_left; (focus (simp only [Act.put, sA, sB, sC, i64_w, i32_w, v0, v1, v2, v3]; rfl)))
    | (refine o_pure (v := ?_) (a' := ?_) rfl rfl (by rfl) ?_ ?_ ?_; rotate_left 2; (focus (intro w'; go_simp; with_reducible rfl)); (focus (simp only [Act.put, sA, sB, sC, i64_w, i32_w, v0, v1, v2, v3]; rfl)))
    | (refine o_loadoff (a' := ?_) rfl rfl (by rfl) hS ?_ ?_; rotate_left; (focus (simp only [Act.put, sA, sB, sC, i64_w, i32_w, v0, v1, v2, v3]; rfl)))
    | (refine o_load (v := ?_) (a' := ?_) rfl rfl (by rfl) hS ?_ ?_ ?_; rotate_left 2; (focus (rintro w' ⟨_, i0, i1, _⟩; have c0 := i0.c0; have d0 := i0.c1; have c1 := i1.c0; have d1 := i1.c1; go_simp; with_reducible rfl)); (focus (simp only [Act.put, sA, sB, sC, i64_w, i32_w, v0, v1, v2, v3]; rfl)))
    | (refine o_one rfl ?_)
    | (refine o_fork2 rfl rfl ?_ ?_)
    | (refine s_off (a' := ?_) rfl (by rfl) hS ?_ ?_; rotate_left; (focus (simp only [Act.put, sA, sB, sC, i64_w, i32_w, v0, v1, v2, v3]; rfl)))
    | (refine s_call (f := 49) (a' := ?_) rfl (by rfl) rfl Try.func49 (by kernel_rfl) rfl (but_any p q r s b0 b1 b2 b3 _) (by (try simp only [List.map_toArray, List.map_cons, List.map_nil]); first | done | rfl) (fun w' hb => ⟨below_call hS.1 hb, IB.below hS.2.1 hb, IB.below hS.2.2.1 hb, IB.below hS.2.2.2.1 hb, IB.below hS.2.2.2.2 hb⟩) ?_ ?_; rotate_left; (focus (simp only [Act.put, sA, sB, sC, i64_w, i32_w, v0, v1, v2, v3]; rfl)); clear hS; intro w1 hb hS; clear hb)
    | (refine s_call (f := 49) (a' := ?_) rfl (by rfl) rfl Try.func49 (by kernel_rfl) rfl (but_any r s p q b4 b5 b6 b7 _) (by (try simp only [List.map_toArray, List.map_cons, List.map_nil]); first | done | rfl) (fun w' hb => ⟨below_call hS.1 hb, IB.below hS.2.1 hb, IB.below hS.2.2.1 hb, IB.below hS.2.2.2.1 hb, IB.below hS.2.2.2.2 hb⟩) ?_ ?_; rotate_left; (focus (simp only [Act.put, sA, sB, sC, i64_w, i32_w, v0, v1, v2, v3]; rfl)); clear hS; intro w1 hb hS; clear hb)
    | (refine s_call (f := 47) (a' := ?_) rfl (by rfl) rfl Try.func47 (by kernel_rfl) rfl (both_any _ _ _ _ _) (by (try simp only [List.map_toArray, List.map_cons, List.map_nil]); first | done | rfl) (fun w' hb => ⟨below_call hS.1 hb, IB.below hS.2.1 hb, IB.below hS.2.2.1 hb, IB.below hS.2.2.2.1 hb, IB.below hS.2.2.2.2 hb⟩) ?_ ?_; rotate_left; (focus (simp only [Act.put, sA, sB, sC, i64_w, i32_w, v0, v1, v2, v3]; rfl)); clear hS; intro w1 hb hS; clear hb))
  obtain ⟨hB, i0, i1, i2, i3⟩ := hS
  have c0 := i0.c0; have d0 := i0.c1; have c1 := i1.c0; have d1 := i1.c1; have c2 := i2.c0; have d2 := i2.c1; have c3 := i3.c0; have d3 := i3.c1; 
  have f0 := i0.f0 0; have e0 := i0.f0 1
  have f1 := i1.f0 0; have e1 := i1.f0 1
  have f2 := i2.f0 0; have e2 := i2.f0 1
  have f3 := i3.f0 0; have e3 := i3.f0 1
  (refine o_store (w1 := ?_) rfl rfl (by rfl) ?_ ?_; rotate_left; (focus (go_simp; rfl)))
  (refine o_store (w1 := ?_) rfl rfl (by rfl) ?_ ?_; rotate_left; (focus (go_simp; rfl)))
  refine o_done ?_
  go_wp2
  refine bodyPost_ret (v := .tuple #[.agg #[.int .i64 ((bothF (butF p q r s).1 (butF p q r s).2 (butF r s p q).1 (butF r s p q).2).1.1), .int .i64 ((bothF (butF p q r s).1 (butF p q r s).2 (butF r s p q).1 (butF r s p q).2).1.2)], .agg #[.int .i64 ((bothF (butF p q r s).1 (butF p q r s).2 (butF r s p q).1 (butF r s p q).2).2.1), .int .i64 ((bothF (butF p q r s).1 (butF p q r s).2 (butF r s p q).1 (butF r s p q).2).2.2)]]) ?_ rfl ⟨rfl, ?_⟩
  · have k0 := ((IB.far (g' := w.heap.size + 3) (o := 1) (IB.far (g' := w.heap.size + 3) (o := 0) ((i2.set0 ((bothF (butF p q r s).1 (butF p q r s).2 (butF r s p q).1 (butF r s p q).2).1.1)).set1 ((bothF (butF p q r s).1 (butF p q r s).2 (butF r s p q).1 (butF r s p q).2).1.2)) (by omega) (.int .i64 ((bothF (butF p q r s).1 (butF p q r s).2 (butF r s p q).1 (butF r s p q).2).2.1))) (by omega) (.int .i64 ((bothF (butF p q r s).1 (butF p q r s).2 (butF r s p q).1 (butF r s p q).2).2.2)))).c0
    have k1 := ((IB.far (g' := w.heap.size + 3) (o := 1) (IB.far (g' := w.heap.size + 3) (o := 0) ((i2.set0 ((bothF (butF p q r s).1 (butF p q r s).2 (butF r s p q).1 (butF r s p q).2).1.1)).set1 ((bothF (butF p q r s).1 (butF p q r s).2 (butF r s p q).1 (butF r s p q).2).1.2)) (by omega) (.int .i64 ((bothF (butF p q r s).1 (butF p q r s).2 (butF r s p q).1 (butF r s p q).2).2.1))) (by omega) (.int .i64 ((bothF (butF p q r s).1 (butF p q r s).2 (butF r s p q).1 (butF r s p q).2).2.2)))).c1
    have k2 := ((((IB.far (g' := w.heap.size + 2) (o := 1) (IB.far (g' := w.heap.size + 2) (o := 0) i3 (by omega) (.int .i64 ((bothF (butF p q r s).1 (butF p q r s).2 (butF r s p q).1 (butF r s p q).2).1.1))) (by omega) (.int .i64 ((bothF (butF p q r s).1 (butF p q r s).2 (butF r s p q).1 (butF r s p q).2).1.2))).set0 ((bothF (butF p q r s).1 (butF p q r s).2 (butF r s p q).1 (butF r s p q).2).2.1)).set1 ((bothF (butF p q r s).1 (butF p q r s).2 (butF r s p q).1 (butF r s p q).2).2.2))).c0
    have k3 := ((((IB.far (g' := w.heap.size + 2) (o := 1) (IB.far (g' := w.heap.size + 2) (o := 0) i3 (by omega) (.int .i64 ((bothF (butF p q r s).1 (butF p q r s).2 (butF r s p q).1 (butF r s p q).2).1.1))) (by omega) (.int .i64 ((bothF (butF p q r s).1 (butF p q r s).2 (butF r s p q).1 (butF r s p q).2).1.2))).set0 ((bothF (butF p q r s).1 (butF p q r s).2 (butF r s p q).1 (butF r s p q).2).2.1)).set1 ((bothF (butF p q r s).1 (butF p q r s).2 (butF r s p q).1 (butF r s p q).2).2.2))).c1
    simp [results, Try.results26, go_sem, k0, k1, k2, k3]
  · exact below_set (below_set (below_set (below_set hB (by omega) _) (by omega) _) (by omega) _) (by omega) _
theorem rr_14t (a b c d p q r s : Int) (w : World) (hpq : fixP a b = (p, q)) (hrs : fixP c d = (r, s)) (h1 : eqI p q 1 0 = false) (h2 : eqI r s 1 0 = false) (b0 : -2147483648 ≤ p) (b1 : p ≤ 2147483647) (b2 : -2147483648 ≤ q) (b3 : q ≤ 2147483647) (b4 : -2147483648 ≤ r) (b5 : r ≤ 2147483647) (b6 : -2147483648 ≤ s) (b7 : s ≤ 2147483647) :
    Calls Try.prog 26 #[.int .i64 14, .bool true, .agg #[.int .i64 a, .int .i64 b], .agg #[.int .i64 c, .int .i64 d]] w fun e w' => e = .returned (.tuple #[.agg #[.int .i64 ((bothF (butF p q r s).1 (butF p q r s).2 (butF r s p q).1 (butF r s p q).2).1).1, .int .i64 ((bothF (butF p q r s).1 (butF p q r s).2 (butF r s p q).1 (butF r s p q).2).1).2], .agg #[.int .i64 ((bothF (butF p q r s).1 (butF p q r s).2 (butF r s p q).1 (butF r s p q).2).2).1, .int .i64 ((bothF (butF p q r s).1 (butF p q r s).2 (butF r s p q).1 (butF r s p q).2).2).2]]) ∧ Below w.heap.size w w' := by
  have Hpq := Lib.hid hpq; have Hrs := Lib.hid hrs; clear hpq hrs
  have v0 : wrap64 (s - 1) = s - 1 := w64_in (by omega) (by omega)
  have v1 : wrap64 (p + 1) = p + 1 := w64_in (by omega) (by omega)
  have v2 : wrap64 (r + 1) = r + 1 := w64_in (by omega) (by omega)
  have v3 : wrap64 (q - 1) = q - 1 := w64_in (by omega) (by omega)
  go_enter Try.func26, Try.ntmps26
  go_wp2_with fail
  refine o_start (S := (fun w' => Below w.heap.size w w' ∧ IB w' (w.heap.size) (a) (b) ∧ IB w' (w.heap.size + 1) (c) (d) ∧ IB w' (w.heap.size + 2) (0) (0) ∧ IB w' (w.heap.size + 3) (0) (0))) (ds := [4, 5]) (.cons 0 1 (.cons 2 1 (.cons 1 2 (.cons 3 2 (.cons 4 3 (.cons 5 3 .nil)))))) (by kernel_rfl) (by kernel_rfl) (fun _ _ d _ _ h => by cases d <;> exact h) ⟨(((((Below.refl _ _).alloc (Nat.le_refl _) _).alloc (by simp) _).alloc (by simp; omega) _).alloc (by simp; omega) _).drew, ((((IB.new w a b).alloc _).alloc _).alloc _).drew, (((IB.at (by simp) c d).alloc _).alloc _).drew, ((IB.at (by simp) 0 0).alloc _).drew, (IB.at (by simp) 0 0).drew⟩ (fun w1 hS => ?_)
  repeat' (first
    | (refine o_off (a' := ?_) rfl rfl (by rfl) ?_ ?_; rotate_left; (focus (simp only [Act.put, sA, sB, sC, i64_w, i32_w]; rfl)))
    | (refine o_pure (v := ?_) (a' := ?_) rfl rfl (by rfl) ?_ ?_ ?_; rotate_left 2; (focus (intro w'; go_simp; with_reducible rfl)); (focus (simp only [Act.put, sA, sB, sC, i64_w, i32_w]; rfl)))
    | (refine o_loadoff (a' := ?_) rfl rfl (by rfl) hS ?_ ?_; rotate_left; (focus (simp only [Act.put, sA, sB, sC, i64_w, i32_w]; rfl)))
    | (refine o_load (v := ?_) (a' := ?_) rfl rfl (by rfl) hS ?_ ?_ ?_; rotate_left 2; (focus (rintro w' ⟨_, i0, i1, i2, i3⟩; have c0 := i0.c0; have d0 := i0.c1; have c1 := i1.c0; have d1 := i1.c1; have c2 := i2.c0; have d2 := i2.c1; have c3 := i3.c0; have d3 := i3.c1; go_simp; with_reducible rfl)); (focus (simp only [Act.put, sA, sB, sC, i64_w, i32_w]; rfl)))
    | (refine o_one rfl ?_)
    | (refine o_fork2 rfl rfl ?_ ?_)
    | (refine s_off (a' := ?_) rfl (by rfl) hS ?_ ?_; rotate_left; (focus (simp only [Act.put, sA, sB, sC, i64_w, i32_w]; rfl)))
    | (refine s_call (f := 46) (a' := ?_) rfl (by rfl) rfl Try.func46 (by kernel_rfl) rfl (form_as Hpq.out _) (by (try simp only [List.map_toArray, List.map_cons, List.map_nil]); first | done | rfl) (fun w' hb => ⟨below_call hS.1 hb, IB.below hS.2.1 hb, IB.below hS.2.2.1 hb, IB.below hS.2.2.2.1 hb, IB.below hS.2.2.2.2 hb⟩) ?_ ?_; rotate_left; (focus (simp only [Act.put, sA, sB, sC, i64_w, i32_w]; rfl)); clear hS; intro w1 hb hS; clear hb)
    | (refine s_call (f := 46) (a' := ?_) rfl (by rfl) rfl Try.func46 (by kernel_rfl) rfl (form_as Hrs.out _) (by (try simp only [List.map_toArray, List.map_cons, List.map_nil]); first | done | rfl) (fun w' hb => ⟨below_call hS.1 hb, IB.below hS.2.1 hb, IB.below hS.2.2.1 hb, IB.below hS.2.2.2.1 hb, IB.below hS.2.2.2.2 hb⟩) ?_ ?_; rotate_left; (focus (simp only [Act.put, sA, sB, sC, i64_w, i32_w]; rfl)); clear hS; intro w1 hb hS; clear hb))
  obtain ⟨hB, i0, i1, i2, i3⟩ := hS
  have c0 := i0.c0; have d0 := i0.c1; have c1 := i1.c0; have d1 := i1.c1; have c2 := i2.c0; have d2 := i2.c1; have c3 := i3.c0; have d3 := i3.c1; 
  have f0 := i0.f0 0; have e0 := i0.f0 1
  have f1 := i1.f0 0; have e1 := i1.f0 1
  have f2 := i2.f0 0; have e2 := i2.f0 1
  have f3 := i3.f0 0; have e3 := i3.f0 1
  (refine o_store (w1 := ?_) rfl rfl (by rfl) ?_ ?_; rotate_left; (focus (go_simp; rfl)))
  (refine o_store (w1 := ?_) rfl rfl (by rfl) ?_ ?_; rotate_left; (focus (go_simp; rfl)))
  refine o_close (S' := (fun w' => Below w.heap.size w w' ∧ IB w' (w.heap.size) (p) (q) ∧ IB w' (w.heap.size + 1) (r) (s) ∧ IB w' (w.heap.size + 2) (0) (0) ∧ IB w' (w.heap.size + 3) (0) (0))) ⟨below_set (below_set (below_set (below_set hB (by omega) _) (by omega) _) (by omega) _) (by omega) _, ((((i0.set0 p).set1 q).far (by omega) _).far (by omega) _), (((((i1.far (by omega) _).far (by omega) _).set0 r)).set1 s), ((((i2.far (by omega) _).far (by omega) _).far (by omega) _).far (by omega) _), ((((i3.far (by omega) _).far (by omega) _).far (by omega) _).far (by omega) _)⟩ (fun w2 hS => ?_)
  clear i0 c0 d0 f0 e0 i1 c1 d1 f1 e1 i2 c2 d2 f2 e2 i3 c3 d3 f3 e3 hB
  obtain ⟨hB, i0, i1, i2, i3⟩ := hS
  have c0 := i0.c0; have d0 := i0.c1; have c1 := i1.c0; have d1 := i1.c1; have c2 := i2.c0; have d2 := i2.c1; have c3 := i3.c0; have d3 := i3.c1; 
  have f0 := i0.f0 0; have e0 := i0.f0 1
  have f1 := i1.f0 0; have e1 := i1.f0 1
  have f2 := i2.f0 0; have e2 := i2.f0 1
  have f3 := i3.f0 0; have e3 := i3.f0 1
  go_wp2_with fail
  refine o_start (S := (fun w' => Below w.heap.size w w' ∧ IB w' (w.heap.size) (p) (q) ∧ IB w' (w.heap.size + 1) (r) (s) ∧ IB w' (w.heap.size + 2) (0) (0) ∧ IB w' (w.heap.size + 3) (0) (0))) (ds := []) (.cons 0 1 (.cons 1 2 (.cons 2 0 (.cons 3 0 (.cons 4 1 (.cons 5 2 (.cons 6 0 (.cons 7 0 .nil)))))))) (by kernel_rfl) (by kernel_rfl) (fun _ _ d _ _ h => by cases d <;> exact h) ⟨hB.drew, i0.drew, i1.drew, i2.drew, i3.drew⟩ (fun w1 hS => ?_)
  clear hB i0 c0 d0 f0 e0 i1 c1 d1 f1 e1 i2 c2 d2 f2 e2 i3 c3 d3 f3 e3
  repeat' (first
    | (refine o_off (a' := ?_) rfl rfl (by rfl) ?_ ?_; rotate_left; (focus (simp only [Act.put, sA, sB, sC, i64_w, i32_w]; rfl)))
    | (refine o_pure (v := ?_) (a' := ?_) rfl rfl (by rfl) ?_ ?_ ?_; rotate_left 2; (focus (intro w'; go_simp; with_reducible rfl)); (focus (simp only [Act.put, sA, sB, sC, i64_w, i32_w]; rfl)))
    | (refine o_loadoff (a' := ?_) rfl rfl (by rfl) hS ?_ ?_; rotate_left; (focus (simp only [Act.put, sA, sB, sC, i64_w, i32_w]; rfl)))
    | (refine o_load (v := ?_) (a' := ?_) rfl rfl (by rfl) hS ?_ ?_ ?_; rotate_left 2; (focus (rintro w' ⟨_, i0, i1, i2, i3⟩; have c0 := i0.c0; have d0 := i0.c1; have c1 := i1.c0; have d1 := i1.c1; have c2 := i2.c0; have d2 := i2.c1; have c3 := i3.c0; have d3 := i3.c1; go_simp; with_reducible rfl)); (focus (simp only [Act.put, sA, sB, sC, i64_w, i32_w]; rfl)))
    | (refine o_one rfl ?_)
    | (refine o_fork2 rfl rfl ?_ ?_)
    | (refine s_off (a' := ?_) rfl (by rfl) hS ?_ ?_; rotate_left; (focus (simp only [Act.put, sA, sB, sC, i64_w, i32_w]; rfl)))
    | (refine s_call (f := 13) (a' := ?_) rfl (by rfl) rfl Try.func13 (by kernel_rfl) rfl (rnone_any _) (by (try simp only [List.map_toArray, List.map_cons, List.map_nil]); first | done | rfl) (fun w' hb => ⟨below_call hS.1 hb, IB.below hS.2.1 hb, IB.below hS.2.2.1 hb, IB.below hS.2.2.2.1 hb, IB.below hS.2.2.2.2 hb⟩) ?_ ?_; rotate_left; (focus (simp only [Act.put, sA, sB, sC, i64_w, i32_w]; rfl)); clear hS; intro w1 hb hS; clear hb))
  refine o_done ?_
  obtain ⟨hB, i0, i1, i2, i3⟩ := hS
  have c0 := i0.c0; have d0 := i0.c1; have c1 := i1.c0; have d1 := i1.c1; have c2 := i2.c0; have d2 := i2.c1; have c3 := i3.c0; have d3 := i3.c1; 
  have f0 := i0.f0 0; have e0 := i0.f0 1
  have f1 := i1.f0 0; have e1 := i1.f0 1
  have f2 := i2.f0 0; have e2 := i2.f0 1
  have f3 := i3.f0 0; have e3 := i3.f0 1
  have l0 := i0.lt; have l1 := i1.lt; have l2 := i2.lt; have l3 := i3.lt
  go_wp2_with fail
  refine o_start (S := (fun w' => Below w.heap.size w w' ∧ IB w' (w.heap.size) (p) (q) ∧ IB w' (w.heap.size + 1) (r) (s) ∧ IB w' (w.heap.size + 2) (0) (0) ∧ IB w' (w.heap.size + 3) (0) (0))) (ds := [9, 10]) (.cons 0 1 (.cons 1 1 (.cons 3 1 (.cons 4 1 (.cons 2 2 (.cons 5 2 (.cons 6 2 (.cons 7 0 (.cons 8 0 (.cons 9 3 (.cons 10 3 .nil))))))))))) (by kernel_rfl) (by kernel_rfl) (fun _ _ d _ _ h => by cases d <;> exact h) ⟨hB.drew, i0.drew, i1.drew, i2.drew, i3.drew⟩ (fun w1 hS => ?_)
  clear hB i0 c0 d0 f0 e0 l0 i1 c1 d1 f1 e1 l1 i2 c2 d2 f2 e2 l2 i3 c3 d3 f3 e3 l3
  repeat' (first
    | (refine o_off (a' := ?_) rfl rfl (by rfl) ?_ ?_; rotate_left; (focus (simp only [Act.put, sA, sB, sC, i64_w, i32_w, v0, v1, v2, v3]; rfl)))
    | (refine o_pure (v := ?_) (a' := ?_) rfl rfl (by rfl) ?_ ?_ ?_; rotate_left 2; (focus (intro w'; go_simp; with_reducible rfl)); (focus (simp only [Act.put, sA, sB, sC, i64_w, i32_w, v0, v1, v2, v3]; rfl)))
    | (refine o_loadoff (a' := ?_) rfl rfl (by rfl) hS ?_ ?_; rotate_left; (focus (simp only [Act.put, sA, sB, sC, i64_w, i32_w, v0, v1, v2, v3]; rfl)))
    | (refine o_load (v := ?_) (a' := ?_) rfl rfl (by rfl) hS ?_ ?_ ?_; rotate_left 2; (focus (rintro w' ⟨_, i0, i1, _⟩; have c0 := i0.c0; have d0 := i0.c1; have c1 := i1.c0; have d1 := i1.c1; go_simp; with_reducible rfl)); (focus (simp only [Act.put, sA, sB, sC, i64_w, i32_w, v0, v1, v2, v3]; rfl)))
    | (refine o_one rfl ?_)
    | (refine o_fork2 rfl rfl ?_ ?_)
    | (refine s_off (a' := ?_) rfl (by rfl) hS ?_ ?_; rotate_left; (focus (simp only [Act.put, sA, sB, sC, i64_w, i32_w, v0, v1, v2, v3]; rfl)))
    | (refine s_call (f := 49) (a' := ?_) rfl (by rfl) rfl Try.func49 (by kernel_rfl) rfl (but_any p q r s b0 b1 b2 b3 _) (by (try simp only [List.map_toArray, List.map_cons, List.map_nil]); first | done | rfl) (fun w' hb => ⟨below_call hS.1 hb, IB.below hS.2.1 hb, IB.below hS.2.2.1 hb, IB.below hS.2.2.2.1 hb, IB.below hS.2.2.2.2 hb⟩) ?_ ?_; rotate_left; (focus (simp only [Act.put, sA, sB, sC, i64_w, i32_w, v0, v1, v2, v3]; rfl)); clear hS; intro w1 hb hS; clear hb)
    | (refine s_call (f := 49) (a' := ?_) rfl (by rfl) rfl Try.func49 (by kernel_rfl) rfl (but_any r s p q b4 b5 b6 b7 _) (by (try simp only [List.map_toArray, List.map_cons, List.map_nil]); first | done | rfl) (fun w' hb => ⟨below_call hS.1 hb, IB.below hS.2.1 hb, IB.below hS.2.2.1 hb, IB.below hS.2.2.2.1 hb, IB.below hS.2.2.2.2 hb⟩) ?_ ?_; rotate_left; (focus (simp only [Act.put, sA, sB, sC, i64_w, i32_w, v0, v1, v2, v3]; rfl)); clear hS; intro w1 hb hS; clear hb)
    | (refine s_call (f := 47) (a' := ?_) rfl (by rfl) rfl Try.func47 (by kernel_rfl) rfl (both_any _ _ _ _ _) (by (try simp only [List.map_toArray, List.map_cons, List.map_nil]); first | done | rfl) (fun w' hb => ⟨below_call hS.1 hb, IB.below hS.2.1 hb, IB.below hS.2.2.1 hb, IB.below hS.2.2.2.1 hb, IB.below hS.2.2.2.2 hb⟩) ?_ ?_; rotate_left; (focus (simp only [Act.put, sA, sB, sC, i64_w, i32_w, v0, v1, v2, v3]; rfl)); clear hS; intro w1 hb hS; clear hb))
  obtain ⟨hB, i0, i1, i2, i3⟩ := hS
  have c0 := i0.c0; have d0 := i0.c1; have c1 := i1.c0; have d1 := i1.c1; have c2 := i2.c0; have d2 := i2.c1; have c3 := i3.c0; have d3 := i3.c1; 
  have f0 := i0.f0 0; have e0 := i0.f0 1
  have f1 := i1.f0 0; have e1 := i1.f0 1
  have f2 := i2.f0 0; have e2 := i2.f0 1
  have f3 := i3.f0 0; have e3 := i3.f0 1
  (refine o_store (w1 := ?_) rfl rfl (by rfl) ?_ ?_; rotate_left; (focus (go_simp; rfl)))
  (refine o_store (w1 := ?_) rfl rfl (by rfl) ?_ ?_; rotate_left; (focus (go_simp; rfl)))
  refine o_done ?_
  go_wp2
  refine bodyPost_ret (v := .tuple #[.agg #[.int .i64 ((bothF (butF p q r s).1 (butF p q r s).2 (butF r s p q).1 (butF r s p q).2).1.1), .int .i64 ((bothF (butF p q r s).1 (butF p q r s).2 (butF r s p q).1 (butF r s p q).2).1.2)], .agg #[.int .i64 ((bothF (butF p q r s).1 (butF p q r s).2 (butF r s p q).1 (butF r s p q).2).2.1), .int .i64 ((bothF (butF p q r s).1 (butF p q r s).2 (butF r s p q).1 (butF r s p q).2).2.2)]]) ?_ rfl ⟨rfl, ?_⟩
  · have k0 := ((IB.far (g' := w.heap.size + 3) (o := 1) (IB.far (g' := w.heap.size + 3) (o := 0) ((i2.set0 ((bothF (butF p q r s).1 (butF p q r s).2 (butF r s p q).1 (butF r s p q).2).1.1)).set1 ((bothF (butF p q r s).1 (butF p q r s).2 (butF r s p q).1 (butF r s p q).2).1.2)) (by omega) (.int .i64 ((bothF (butF p q r s).1 (butF p q r s).2 (butF r s p q).1 (butF r s p q).2).2.1))) (by omega) (.int .i64 ((bothF (butF p q r s).1 (butF p q r s).2 (butF r s p q).1 (butF r s p q).2).2.2)))).c0
    have k1 := ((IB.far (g' := w.heap.size + 3) (o := 1) (IB.far (g' := w.heap.size + 3) (o := 0) ((i2.set0 ((bothF (butF p q r s).1 (butF p q r s).2 (butF r s p q).1 (butF r s p q).2).1.1)).set1 ((bothF (butF p q r s).1 (butF p q r s).2 (butF r s p q).1 (butF r s p q).2).1.2)) (by omega) (.int .i64 ((bothF (butF p q r s).1 (butF p q r s).2 (butF r s p q).1 (butF r s p q).2).2.1))) (by omega) (.int .i64 ((bothF (butF p q r s).1 (butF p q r s).2 (butF r s p q).1 (butF r s p q).2).2.2)))).c1
    have k2 := ((((IB.far (g' := w.heap.size + 2) (o := 1) (IB.far (g' := w.heap.size + 2) (o := 0) i3 (by omega) (.int .i64 ((bothF (butF p q r s).1 (butF p q r s).2 (butF r s p q).1 (butF r s p q).2).1.1))) (by omega) (.int .i64 ((bothF (butF p q r s).1 (butF p q r s).2 (butF r s p q).1 (butF r s p q).2).1.2))).set0 ((bothF (butF p q r s).1 (butF p q r s).2 (butF r s p q).1 (butF r s p q).2).2.1)).set1 ((bothF (butF p q r s).1 (butF p q r s).2 (butF r s p q).1 (butF r s p q).2).2.2))).c0
    have k3 := ((((IB.far (g' := w.heap.size + 2) (o := 1) (IB.far (g' := w.heap.size + 2) (o := 0) i3 (by omega) (.int .i64 ((bothF (butF p q r s).1 (butF p q r s).2 (butF r s p q).1 (butF r s p q).2).1.1))) (by omega) (.int .i64 ((bothF (butF p q r s).1 (butF p q r s).2 (butF r s p q).1 (butF r s p q).2).1.2))).set0 ((bothF (butF p q r s).1 (butF p q r s).2 (butF r s p q).1 (butF r s p q).2).2.1)).set1 ((bothF (butF p q r s).1 (butF p q r s).2 (butF r s p q).1 (butF r s p q).2).2.2))).c1
    simp [results, Try.results26, go_sem, k0, k1, k2, k3]
  · exact below_set (below_set (below_set (below_set hB (by omega) _) (by omega) _) (by omega) _) (by omega) _
theorem rr_13t (a b c d p q r s : Int) (w : World) (hpq : fixP a b = (p, q)) (hrs : fixP c d = (r, s)) (h1 : eqI p q 1 0 = false) (h2 : eqI r s 1 0 = false) (b0 : -2147483648 ≤ p) (b1 : p ≤ 2147483647) (b2 : -2147483648 ≤ q) (b3 : q ≤ 2147483647) (b4 : -2147483648 ≤ r) (b5 : r ≤ 2147483647) (b6 : -2147483648 ≤ s) (b7 : s ≤ 2147483647) :
    Calls Try.prog 26 #[.int .i64 13, .bool true, .agg #[.int .i64 a, .int .i64 b], .agg #[.int .i64 c, .int .i64 d]] w fun e w' => e = .returned (.tuple #[.agg #[.int .i64 ((bothF (meet0 p q r s).1 (meet0 p q r s).2 (meet0 p q r s).1 (meet0 p q r s).2).1).1, .int .i64 ((bothF (meet0 p q r s).1 (meet0 p q r s).2 (meet0 p q r s).1 (meet0 p q r s).2).1).2], .agg #[.int .i64 ((bothF (meet0 p q r s).1 (meet0 p q r s).2 (meet0 p q r s).1 (meet0 p q r s).2).2).1, .int .i64 ((bothF (meet0 p q r s).1 (meet0 p q r s).2 (meet0 p q r s).1 (meet0 p q r s).2).2).2]]) ∧ Below w.heap.size w w' := by
  have Hpq := Lib.hid hpq; have Hrs := Lib.hid hrs; clear hpq hrs
  have F1 := Lib.hid (fix_of (fixed_as Hpq.out)); have F2 := Lib.hid (fix_of (fixed_as Hrs.out))
  go_enter Try.func26, Try.ntmps26
  go_wp2_with fail
  refine o_start (S := (fun w' => Below w.heap.size w w' ∧ IB w' (w.heap.size) (a) (b) ∧ IB w' (w.heap.size + 1) (c) (d) ∧ IB w' (w.heap.size + 2) (0) (0) ∧ IB w' (w.heap.size + 3) (0) (0))) (ds := [4, 5]) (.cons 0 1 (.cons 2 1 (.cons 1 2 (.cons 3 2 (.cons 4 3 (.cons 5 3 .nil)))))) (by kernel_rfl) (by kernel_rfl) (fun _ _ d _ _ h => by cases d <;> exact h) ⟨(((((Below.refl _ _).alloc (Nat.le_refl _) _).alloc (by simp) _).alloc (by simp; omega) _).alloc (by simp; omega) _).drew, ((((IB.new w a b).alloc _).alloc _).alloc _).drew, (((IB.at (by simp) c d).alloc _).alloc _).drew, ((IB.at (by simp) 0 0).alloc _).drew, (IB.at (by simp) 0 0).drew⟩ (fun w1 hS => ?_)
  repeat' (first
    | (refine o_off (a' := ?_) rfl rfl (by rfl) ?_ ?_; rotate_left; (focus (simp only [Act.put, sA, sB, sC, i64_w, i32_w]; rfl)))
    | (refine o_pure (v := ?_) (a' := ?_) rfl rfl (by rfl) ?_ ?_ ?_; rotate_left 2; (focus (intro w'; go_simp; with_reducible rfl)); (focus (simp only [Act.put, sA, sB, sC, i64_w, i32_w]; rfl)))
    | (refine o_loadoff (a' := ?_) rfl rfl (by rfl) hS ?_ ?_; rotate_left; (focus (simp only [Act.put, sA, sB, sC, i64_w, i32_w]; rfl)))
    | (refine o_load (v := ?_) (a' := ?_) rfl rfl (by rfl) hS ?_ ?_ ?_; rotate_left 2; (focus (rintro w' ⟨_, i0, i1, i2, i3⟩; have c0 := i0.c0; have d0 := i0.c1; have c1 := i1.c0; have d1 := i1.c1; have c2 := i2.c0; have d2 := i2.c1; have c3 := i3.c0; have d3 := i3.c1; go_simp; with_reducible rfl)); (focus (simp only [Act.put, sA, sB, sC, i64_w, i32_w]; rfl)))
    | (refine o_one rfl ?_)
    | (refine o_fork2 rfl rfl ?_ ?_)
    | (refine s_off (a' := ?_) rfl (by rfl) hS ?_ ?_; rotate_left; (focus (simp only [Act.put, sA, sB, sC, i64_w, i32_w]; rfl)))
    | (refine s_call (f := 46) (a' := ?_) rfl (by rfl) rfl Try.func46 (by kernel_rfl) rfl (form_as Hpq.out _) (by (try simp only [List.map_toArray, List.map_cons, List.map_nil]); first | done | rfl) (fun w' hb => ⟨below_call hS.1 hb, IB.below hS.2.1 hb, IB.below hS.2.2.1 hb, IB.below hS.2.2.2.1 hb, IB.below hS.2.2.2.2 hb⟩) ?_ ?_; rotate_left; (focus (simp only [Act.put, sA, sB, sC, i64_w, i32_w]; rfl)); clear hS; intro w1 hb hS; clear hb)
    | (refine s_call (f := 46) (a' := ?_) rfl (by rfl) rfl Try.func46 (by kernel_rfl) rfl (form_as Hrs.out _) (by (try simp only [List.map_toArray, List.map_cons, List.map_nil]); first | done | rfl) (fun w' hb => ⟨below_call hS.1 hb, IB.below hS.2.1 hb, IB.below hS.2.2.1 hb, IB.below hS.2.2.2.1 hb, IB.below hS.2.2.2.2 hb⟩) ?_ ?_; rotate_left; (focus (simp only [Act.put, sA, sB, sC, i64_w, i32_w]; rfl)); clear hS; intro w1 hb hS; clear hb))
  obtain ⟨hB, i0, i1, i2, i3⟩ := hS
  have c0 := i0.c0; have d0 := i0.c1; have c1 := i1.c0; have d1 := i1.c1; have c2 := i2.c0; have d2 := i2.c1; have c3 := i3.c0; have d3 := i3.c1; 
  have f0 := i0.f0 0; have e0 := i0.f0 1
  have f1 := i1.f0 0; have e1 := i1.f0 1
  have f2 := i2.f0 0; have e2 := i2.f0 1
  have f3 := i3.f0 0; have e3 := i3.f0 1
  (refine o_store (w1 := ?_) rfl rfl (by rfl) ?_ ?_; rotate_left; (focus (go_simp; rfl)))
  (refine o_store (w1 := ?_) rfl rfl (by rfl) ?_ ?_; rotate_left; (focus (go_simp; rfl)))
  refine o_close (S' := (fun w' => Below w.heap.size w w' ∧ IB w' (w.heap.size) (p) (q) ∧ IB w' (w.heap.size + 1) (r) (s) ∧ IB w' (w.heap.size + 2) (0) (0) ∧ IB w' (w.heap.size + 3) (0) (0))) ⟨below_set (below_set (below_set (below_set hB (by omega) _) (by omega) _) (by omega) _) (by omega) _, ((((i0.set0 p).set1 q).far (by omega) _).far (by omega) _), (((((i1.far (by omega) _).far (by omega) _).set0 r)).set1 s), ((((i2.far (by omega) _).far (by omega) _).far (by omega) _).far (by omega) _), ((((i3.far (by omega) _).far (by omega) _).far (by omega) _).far (by omega) _)⟩ (fun w2 hS => ?_)
  clear i0 c0 d0 f0 e0 i1 c1 d1 f1 e1 i2 c2 d2 f2 e2 i3 c3 d3 f3 e3 hB
  obtain ⟨hB, i0, i1, i2, i3⟩ := hS
  have c0 := i0.c0; have d0 := i0.c1; have c1 := i1.c0; have d1 := i1.c1; have c2 := i2.c0; have d2 := i2.c1; have c3 := i3.c0; have d3 := i3.c1; 
  have f0 := i0.f0 0; have e0 := i0.f0 1
  have f1 := i1.f0 0; have e1 := i1.f0 1
  have f2 := i2.f0 0; have e2 := i2.f0 1
  have f3 := i3.f0 0; have e3 := i3.f0 1
  go_wp2_with fail
  refine o_start (S := (fun w' => Below w.heap.size w w' ∧ IB w' (w.heap.size) (p) (q) ∧ IB w' (w.heap.size + 1) (r) (s) ∧ IB w' (w.heap.size + 2) (0) (0) ∧ IB w' (w.heap.size + 3) (0) (0))) (ds := []) (.cons 0 1 (.cons 1 2 (.cons 2 0 (.cons 3 0 (.cons 4 1 (.cons 5 2 (.cons 6 0 (.cons 7 0 .nil)))))))) (by kernel_rfl) (by kernel_rfl) (fun _ _ d _ _ h => by cases d <;> exact h) ⟨hB.drew, i0.drew, i1.drew, i2.drew, i3.drew⟩ (fun w1 hS => ?_)
  clear hB i0 c0 d0 f0 e0 i1 c1 d1 f1 e1 i2 c2 d2 f2 e2 i3 c3 d3 f3 e3
  repeat' (first
    | (refine o_off (a' := ?_) rfl rfl (by rfl) ?_ ?_; rotate_left; (focus (simp only [Act.put, sA, sB, sC, i64_w, i32_w]; rfl)))
    | (refine o_pure (v := ?_) (a' := ?_) rfl rfl (by rfl) ?_ ?_ ?_; rotate_left 2; (focus (intro w'; go_simp; with_reducible rfl)); (focus (simp only [Act.put, sA, sB, sC, i64_w, i32_w]; rfl)))
    | (refine o_loadoff (a' := ?_) rfl rfl (by rfl) hS ?_ ?_; rotate_left; (focus (simp only [Act.put, sA, sB, sC, i64_w, i32_w]; rfl)))
    | (refine o_load (v := ?_) (a' := ?_) rfl rfl (by rfl) hS ?_ ?_ ?_; rotate_left 2; (focus (rintro w' ⟨_, i0, i1, i2, i3⟩; have c0 := i0.c0; have d0 := i0.c1; have c1 := i1.c0; have d1 := i1.c1; have c2 := i2.c0; have d2 := i2.c1; have c3 := i3.c0; have d3 := i3.c1; go_simp; with_reducible rfl)); (focus (simp only [Act.put, sA, sB, sC, i64_w, i32_w]; rfl)))
    | (refine o_one rfl ?_)
    | (refine o_fork2 rfl rfl ?_ ?_)
    | (refine s_off (a' := ?_) rfl (by rfl) hS ?_ ?_; rotate_left; (focus (simp only [Act.put, sA, sB, sC, i64_w, i32_w]; rfl)))
    | (refine s_call (f := 13) (a' := ?_) rfl (by rfl) rfl Try.func13 (by kernel_rfl) rfl (rnone_any _) (by (try simp only [List.map_toArray, List.map_cons, List.map_nil]); first | done | rfl) (fun w' hb => ⟨below_call hS.1 hb, IB.below hS.2.1 hb, IB.below hS.2.2.1 hb, IB.below hS.2.2.2.1 hb, IB.below hS.2.2.2.2 hb⟩) ?_ ?_; rotate_left; (focus (simp only [Act.put, sA, sB, sC, i64_w, i32_w]; rfl)); clear hS; intro w1 hb hS; clear hb))
  refine o_done ?_
  obtain ⟨hB, i0, i1, i2, i3⟩ := hS
  have c0 := i0.c0; have d0 := i0.c1; have c1 := i1.c0; have d1 := i1.c1; have c2 := i2.c0; have d2 := i2.c1; have c3 := i3.c0; have d3 := i3.c1; 
  have f0 := i0.f0 0; have e0 := i0.f0 1
  have f1 := i1.f0 0; have e1 := i1.f0 1
  have f2 := i2.f0 0; have e2 := i2.f0 1
  have f3 := i3.f0 0; have e3 := i3.f0 1
  have l0 := i0.lt; have l1 := i1.lt; have l2 := i2.lt; have l3 := i3.lt
  go_wp2_with (first | (go_at_call 29; refine (rmeet_as F1.out F2.out _).mono ?_; rintro e w3 ⟨rfl, hb⟩; replace hB := below_call hB hb; replace i0 := IB.below i0 hb; obtain ⟨c0, d0, f0, e0⟩ := i0.all; replace i1 := IB.below i1 hb; obtain ⟨c1, d1, f1, e1⟩ := i1.all; replace i2 := IB.below i2 hb; obtain ⟨c2, d2, f2, e2⟩ := i2.all; replace i3 := IB.below i3 hb; obtain ⟨c3, d3, f3, e3⟩ := i3.all; clear hb; have l0 := i0.lt; have l1 := i1.lt; have l2 := i2.lt; have l3 := i3.lt) | (go_at_call 47; refine (both_any _ _ _ _ _).mono ?_; rintro e w3 ⟨rfl, hb⟩; replace hB := below_call (hB.alloc hB.size _) hb; replace i0 := IB.below (i0.alloc _) hb; obtain ⟨c0, d0, f0, e0⟩ := i0.all; replace i1 := IB.below (i1.alloc _) hb; obtain ⟨c1, d1, f1, e1⟩ := i1.all; replace i2 := IB.below (i2.alloc _) hb; obtain ⟨c2, d2, f2, e2⟩ := i2.all; replace i3 := IB.below (i3.alloc _) hb; obtain ⟨c3, d3, f3, e3⟩ := i3.all; clear hb))
  refine bodyPost_ret (v := .tuple #[.agg #[.int .i64 ((bothF (meet0 p q r s).1 (meet0 p q r s).2 (meet0 p q r s).1 (meet0 p q r s).2).1.1), .int .i64 ((bothF (meet0 p q r s).1 (meet0 p q r s).2 (meet0 p q r s).1 (meet0 p q r s).2).1.2)], .agg #[.int .i64 ((bothF (meet0 p q r s).1 (meet0 p q r s).2 (meet0 p q r s).1 (meet0 p q r s).2).2.1), .int .i64 ((bothF (meet0 p q r s).1 (meet0 p q r s).2 (meet0 p q r s).1 (meet0 p q r s).2).2.2)]]) ?_ rfl ⟨rfl, ?_⟩
  · have k0 := ((IB.far (g' := w.heap.size + 3) (o := 1) (IB.far (g' := w.heap.size + 3) (o := 0) ((i2.set0 ((bothF (meet0 p q r s).1 (meet0 p q r s).2 (meet0 p q r s).1 (meet0 p q r s).2).1.1)).set1 ((bothF (meet0 p q r s).1 (meet0 p q r s).2 (meet0 p q r s).1 (meet0 p q r s).2).1.2)) (by omega) (.int .i64 ((bothF (meet0 p q r s).1 (meet0 p q r s).2 (meet0 p q r s).1 (meet0 p q r s).2).2.1))) (by omega) (.int .i64 ((bothF (meet0 p q r s).1 (meet0 p q r s).2 (meet0 p q r s).1 (meet0 p q r s).2).2.2)))).c0
    have k1 := ((IB.far (g' := w.heap.size + 3) (o := 1) (IB.far (g' := w.heap.size + 3) (o := 0) ((i2.set0 ((bothF (meet0 p q r s).1 (meet0 p q r s).2 (meet0 p q r s).1 (meet0 p q r s).2).1.1)).set1 ((bothF (meet0 p q r s).1 (meet0 p q r s).2 (meet0 p q r s).1 (meet0 p q r s).2).1.2)) (by omega) (.int .i64 ((bothF (meet0 p q r s).1 (meet0 p q r s).2 (meet0 p q r s).1 (meet0 p q r s).2).2.1))) (by omega) (.int .i64 ((bothF (meet0 p q r s).1 (meet0 p q r s).2 (meet0 p q r s).1 (meet0 p q r s).2).2.2)))).c1
    have k2 := ((((IB.far (g' := w.heap.size + 2) (o := 1) (IB.far (g' := w.heap.size + 2) (o := 0) i3 (by omega) (.int .i64 ((bothF (meet0 p q r s).1 (meet0 p q r s).2 (meet0 p q r s).1 (meet0 p q r s).2).1.1))) (by omega) (.int .i64 ((bothF (meet0 p q r s).1 (meet0 p q r s).2 (meet0 p q r s).1 (meet0 p q r s).2).1.2))).set0 ((bothF (meet0 p q r s).1 (meet0 p q r s).2 (meet0 p q r s).1 (meet0 p q r s).2).2.1)).set1 ((bothF (meet0 p q r s).1 (meet0 p q r s).2 (meet0 p q r s).1 (meet0 p q r s).2).2.2))).c0
    have k3 := ((((IB.far (g' := w.heap.size + 2) (o := 1) (IB.far (g' := w.heap.size + 2) (o := 0) i3 (by omega) (.int .i64 ((bothF (meet0 p q r s).1 (meet0 p q r s).2 (meet0 p q r s).1 (meet0 p q r s).2).1.1))) (by omega) (.int .i64 ((bothF (meet0 p q r s).1 (meet0 p q r s).2 (meet0 p q r s).1 (meet0 p q r s).2).1.2))).set0 ((bothF (meet0 p q r s).1 (meet0 p q r s).2 (meet0 p q r s).1 (meet0 p q r s).2).2.1)).set1 ((bothF (meet0 p q r s).1 (meet0 p q r s).2 (meet0 p q r s).1 (meet0 p q r s).2).2.2))).c1
    simp [results, Try.results26, go_sem, k0, k1, k2, k3]
  · exact below_set (below_set (below_set (below_set hB (by omega) _) (by omega) _) (by omega) _) (by omega) _
theorem rr_14f (a b c d p q r s : Int) (w : World) (hpq : fixP a b = (p, q)) (hrs : fixP c d = (r, s)) (h1 : eqI p q 1 0 = false) (h2 : eqI r s 1 0 = false) (b0 : -2147483648 ≤ p) (b1 : p ≤ 2147483647) (b2 : -2147483648 ≤ q) (b3 : q ≤ 2147483647) (b4 : -2147483648 ≤ r) (b5 : r ≤ 2147483647) (b6 : -2147483648 ≤ s) (b7 : s ≤ 2147483647) :
    Calls Try.prog 26 #[.int .i64 14, .bool false, .agg #[.int .i64 a, .int .i64 b], .agg #[.int .i64 c, .int .i64 d]] w fun e w' => e = .returned (.tuple #[.agg #[.int .i64 ((bothF (meet0 p q r s).1 (meet0 p q r s).2 (meet0 p q r s).1 (meet0 p q r s).2).1).1, .int .i64 ((bothF (meet0 p q r s).1 (meet0 p q r s).2 (meet0 p q r s).1 (meet0 p q r s).2).1).2], .agg #[.int .i64 ((bothF (meet0 p q r s).1 (meet0 p q r s).2 (meet0 p q r s).1 (meet0 p q r s).2).2).1, .int .i64 ((bothF (meet0 p q r s).1 (meet0 p q r s).2 (meet0 p q r s).1 (meet0 p q r s).2).2).2]]) ∧ Below w.heap.size w w' := by
  have Hpq := Lib.hid hpq; have Hrs := Lib.hid hrs; clear hpq hrs
  have F1 := Lib.hid (fix_of (fixed_as Hpq.out)); have F2 := Lib.hid (fix_of (fixed_as Hrs.out))
  go_enter Try.func26, Try.ntmps26
  go_wp2_with fail
  refine o_start (S := (fun w' => Below w.heap.size w w' ∧ IB w' (w.heap.size) (a) (b) ∧ IB w' (w.heap.size + 1) (c) (d) ∧ IB w' (w.heap.size + 2) (0) (0) ∧ IB w' (w.heap.size + 3) (0) (0))) (ds := [4, 5]) (.cons 0 1 (.cons 2 1 (.cons 1 2 (.cons 3 2 (.cons 4 3 (.cons 5 3 .nil)))))) (by kernel_rfl) (by kernel_rfl) (fun _ _ d _ _ h => by cases d <;> exact h) ⟨(((((Below.refl _ _).alloc (Nat.le_refl _) _).alloc (by simp) _).alloc (by simp; omega) _).alloc (by simp; omega) _).drew, ((((IB.new w a b).alloc _).alloc _).alloc _).drew, (((IB.at (by simp) c d).alloc _).alloc _).drew, ((IB.at (by simp) 0 0).alloc _).drew, (IB.at (by simp) 0 0).drew⟩ (fun w1 hS => ?_)
  repeat' (first
    | (refine o_off (a' := ?_) rfl rfl (by rfl) ?_ ?_; rotate_left; (focus (simp only [Act.put, sA, sB, sC, i64_w, i32_w]; rfl)))
    | (refine o_pure (v := ?_) (a' := ?_) rfl rfl (by rfl) ?_ ?_ ?_; rotate_left 2; (focus (intro w'; go_simp; with_reducible rfl)); (focus (simp only [Act.put, sA, sB, sC, i64_w, i32_w]; rfl)))
    | (refine o_loadoff (a' := ?_) rfl rfl (by rfl) hS ?_ ?_; rotate_left; (focus (simp only [Act.put, sA, sB, sC, i64_w, i32_w]; rfl)))
    | (refine o_load (v := ?_) (a' := ?_) rfl rfl (by rfl) hS ?_ ?_ ?_; rotate_left 2; (focus (rintro w' ⟨_, i0, i1, i2, i3⟩; have c0 := i0.c0; have d0 := i0.c1; have c1 := i1.c0; have d1 := i1.c1; have c2 := i2.c0; have d2 := i2.c1; have c3 := i3.c0; have d3 := i3.c1; go_simp; with_reducible rfl)); (focus (simp only [Act.put, sA, sB, sC, i64_w, i32_w]; rfl)))
    | (refine o_one rfl ?_)
    | (refine o_fork2 rfl rfl ?_ ?_)
    | (refine s_off (a' := ?_) rfl (by rfl) hS ?_ ?_; rotate_left; (focus (simp only [Act.put, sA, sB, sC, i64_w, i32_w]; rfl)))
    | (refine s_call (f := 46) (a' := ?_) rfl (by rfl) rfl Try.func46 (by kernel_rfl) rfl (form_as Hpq.out _) (by (try simp only [List.map_toArray, List.map_cons, List.map_nil]); first | done | rfl) (fun w' hb => ⟨below_call hS.1 hb, IB.below hS.2.1 hb, IB.below hS.2.2.1 hb, IB.below hS.2.2.2.1 hb, IB.below hS.2.2.2.2 hb⟩) ?_ ?_; rotate_left; (focus (simp only [Act.put, sA, sB, sC, i64_w, i32_w]; rfl)); clear hS; intro w1 hb hS; clear hb)
    | (refine s_call (f := 46) (a' := ?_) rfl (by rfl) rfl Try.func46 (by kernel_rfl) rfl (form_as Hrs.out _) (by (try simp only [List.map_toArray, List.map_cons, List.map_nil]); first | done | rfl) (fun w' hb => ⟨below_call hS.1 hb, IB.below hS.2.1 hb, IB.below hS.2.2.1 hb, IB.below hS.2.2.2.1 hb, IB.below hS.2.2.2.2 hb⟩) ?_ ?_; rotate_left; (focus (simp only [Act.put, sA, sB, sC, i64_w, i32_w]; rfl)); clear hS; intro w1 hb hS; clear hb))
  obtain ⟨hB, i0, i1, i2, i3⟩ := hS
  have c0 := i0.c0; have d0 := i0.c1; have c1 := i1.c0; have d1 := i1.c1; have c2 := i2.c0; have d2 := i2.c1; have c3 := i3.c0; have d3 := i3.c1; 
  have f0 := i0.f0 0; have e0 := i0.f0 1
  have f1 := i1.f0 0; have e1 := i1.f0 1
  have f2 := i2.f0 0; have e2 := i2.f0 1
  have f3 := i3.f0 0; have e3 := i3.f0 1
  (refine o_store (w1 := ?_) rfl rfl (by rfl) ?_ ?_; rotate_left; (focus (go_simp; rfl)))
  (refine o_store (w1 := ?_) rfl rfl (by rfl) ?_ ?_; rotate_left; (focus (go_simp; rfl)))
  refine o_close (S' := (fun w' => Below w.heap.size w w' ∧ IB w' (w.heap.size) (p) (q) ∧ IB w' (w.heap.size + 1) (r) (s) ∧ IB w' (w.heap.size + 2) (0) (0) ∧ IB w' (w.heap.size + 3) (0) (0))) ⟨below_set (below_set (below_set (below_set hB (by omega) _) (by omega) _) (by omega) _) (by omega) _, ((((i0.set0 p).set1 q).far (by omega) _).far (by omega) _), (((((i1.far (by omega) _).far (by omega) _).set0 r)).set1 s), ((((i2.far (by omega) _).far (by omega) _).far (by omega) _).far (by omega) _), ((((i3.far (by omega) _).far (by omega) _).far (by omega) _).far (by omega) _)⟩ (fun w2 hS => ?_)
  clear i0 c0 d0 f0 e0 i1 c1 d1 f1 e1 i2 c2 d2 f2 e2 i3 c3 d3 f3 e3 hB
  obtain ⟨hB, i0, i1, i2, i3⟩ := hS
  have c0 := i0.c0; have d0 := i0.c1; have c1 := i1.c0; have d1 := i1.c1; have c2 := i2.c0; have d2 := i2.c1; have c3 := i3.c0; have d3 := i3.c1; 
  have f0 := i0.f0 0; have e0 := i0.f0 1
  have f1 := i1.f0 0; have e1 := i1.f0 1
  have f2 := i2.f0 0; have e2 := i2.f0 1
  have f3 := i3.f0 0; have e3 := i3.f0 1
  go_wp2_with fail
  refine o_start (S := (fun w' => Below w.heap.size w w' ∧ IB w' (w.heap.size) (p) (q) ∧ IB w' (w.heap.size + 1) (r) (s) ∧ IB w' (w.heap.size + 2) (0) (0) ∧ IB w' (w.heap.size + 3) (0) (0))) (ds := []) (.cons 0 1 (.cons 1 2 (.cons 2 0 (.cons 3 0 (.cons 4 1 (.cons 5 2 (.cons 6 0 (.cons 7 0 .nil)))))))) (by kernel_rfl) (by kernel_rfl) (fun _ _ d _ _ h => by cases d <;> exact h) ⟨hB.drew, i0.drew, i1.drew, i2.drew, i3.drew⟩ (fun w1 hS => ?_)
  clear hB i0 c0 d0 f0 e0 i1 c1 d1 f1 e1 i2 c2 d2 f2 e2 i3 c3 d3 f3 e3
  repeat' (first
    | (refine o_off (a' := ?_) rfl rfl (by rfl) ?_ ?_; rotate_left; (focus (simp only [Act.put, sA, sB, sC, i64_w, i32_w]; rfl)))
    | (refine o_pure (v := ?_) (a' := ?_) rfl rfl (by rfl) ?_ ?_ ?_; rotate_left 2; (focus (intro w'; go_simp; with_reducible rfl)); (focus (simp only [Act.put, sA, sB, sC, i64_w, i32_w]; rfl)))
    | (refine o_loadoff (a' := ?_) rfl rfl (by rfl) hS ?_ ?_; rotate_left; (focus (simp only [Act.put, sA, sB, sC, i64_w, i32_w]; rfl)))
    | (refine o_load (v := ?_) (a' := ?_) rfl rfl (by rfl) hS ?_ ?_ ?_; rotate_left 2; (focus (rintro w' ⟨_, i0, i1, i2, i3⟩; have c0 := i0.c0; have d0 := i0.c1; have c1 := i1.c0; have d1 := i1.c1; have c2 := i2.c0; have d2 := i2.c1; have c3 := i3.c0; have d3 := i3.c1; go_simp; with_reducible rfl)); (focus (simp only [Act.put, sA, sB, sC, i64_w, i32_w]; rfl)))
    | (refine o_one rfl ?_)
    | (refine o_fork2 rfl rfl ?_ ?_)
    | (refine s_off (a' := ?_) rfl (by rfl) hS ?_ ?_; rotate_left; (focus (simp only [Act.put, sA, sB, sC, i64_w, i32_w]; rfl)))
    | (refine s_call (f := 13) (a' := ?_) rfl (by rfl) rfl Try.func13 (by kernel_rfl) rfl (rnone_any _) (by (try simp only [List.map_toArray, List.map_cons, List.map_nil]); first | done | rfl) (fun w' hb => ⟨below_call hS.1 hb, IB.below hS.2.1 hb, IB.below hS.2.2.1 hb, IB.below hS.2.2.2.1 hb, IB.below hS.2.2.2.2 hb⟩) ?_ ?_; rotate_left; (focus (simp only [Act.put, sA, sB, sC, i64_w, i32_w]; rfl)); clear hS; intro w1 hb hS; clear hb))
  refine o_done ?_
  obtain ⟨hB, i0, i1, i2, i3⟩ := hS
  have c0 := i0.c0; have d0 := i0.c1; have c1 := i1.c0; have d1 := i1.c1; have c2 := i2.c0; have d2 := i2.c1; have c3 := i3.c0; have d3 := i3.c1; 
  have f0 := i0.f0 0; have e0 := i0.f0 1
  have f1 := i1.f0 0; have e1 := i1.f0 1
  have f2 := i2.f0 0; have e2 := i2.f0 1
  have f3 := i3.f0 0; have e3 := i3.f0 1
  have l0 := i0.lt; have l1 := i1.lt; have l2 := i2.lt; have l3 := i3.lt
  go_wp2_with (first | (go_at_call 29; refine (rmeet_as F1.out F2.out _).mono ?_; rintro e w3 ⟨rfl, hb⟩; replace hB := below_call hB hb; replace i0 := IB.below i0 hb; obtain ⟨c0, d0, f0, e0⟩ := i0.all; replace i1 := IB.below i1 hb; obtain ⟨c1, d1, f1, e1⟩ := i1.all; replace i2 := IB.below i2 hb; obtain ⟨c2, d2, f2, e2⟩ := i2.all; replace i3 := IB.below i3 hb; obtain ⟨c3, d3, f3, e3⟩ := i3.all; clear hb; have l0 := i0.lt; have l1 := i1.lt; have l2 := i2.lt; have l3 := i3.lt) | (go_at_call 47; refine (both_any _ _ _ _ _).mono ?_; rintro e w3 ⟨rfl, hb⟩; replace hB := below_call (hB.alloc hB.size _) hb; replace i0 := IB.below (i0.alloc _) hb; obtain ⟨c0, d0, f0, e0⟩ := i0.all; replace i1 := IB.below (i1.alloc _) hb; obtain ⟨c1, d1, f1, e1⟩ := i1.all; replace i2 := IB.below (i2.alloc _) hb; obtain ⟨c2, d2, f2, e2⟩ := i2.all; replace i3 := IB.below (i3.alloc _) hb; obtain ⟨c3, d3, f3, e3⟩ := i3.all; clear hb))
  refine bodyPost_ret (v := .tuple #[.agg #[.int .i64 ((bothF (meet0 p q r s).1 (meet0 p q r s).2 (meet0 p q r s).1 (meet0 p q r s).2).1.1), .int .i64 ((bothF (meet0 p q r s).1 (meet0 p q r s).2 (meet0 p q r s).1 (meet0 p q r s).2).1.2)], .agg #[.int .i64 ((bothF (meet0 p q r s).1 (meet0 p q r s).2 (meet0 p q r s).1 (meet0 p q r s).2).2.1), .int .i64 ((bothF (meet0 p q r s).1 (meet0 p q r s).2 (meet0 p q r s).1 (meet0 p q r s).2).2.2)]]) ?_ rfl ⟨rfl, ?_⟩
  · have k0 := ((IB.far (g' := w.heap.size + 3) (o := 1) (IB.far (g' := w.heap.size + 3) (o := 0) ((i2.set0 ((bothF (meet0 p q r s).1 (meet0 p q r s).2 (meet0 p q r s).1 (meet0 p q r s).2).1.1)).set1 ((bothF (meet0 p q r s).1 (meet0 p q r s).2 (meet0 p q r s).1 (meet0 p q r s).2).1.2)) (by omega) (.int .i64 ((bothF (meet0 p q r s).1 (meet0 p q r s).2 (meet0 p q r s).1 (meet0 p q r s).2).2.1))) (by omega) (.int .i64 ((bothF (meet0 p q r s).1 (meet0 p q r s).2 (meet0 p q r s).1 (meet0 p q r s).2).2.2)))).c0
    have k1 := ((IB.far (g' := w.heap.size + 3) (o := 1) (IB.far (g' := w.heap.size + 3) (o := 0) ((i2.set0 ((bothF (meet0 p q r s).1 (meet0 p q r s).2 (meet0 p q r s).1 (meet0 p q r s).2).1.1)).set1 ((bothF (meet0 p q r s).1 (meet0 p q r s).2 (meet0 p q r s).1 (meet0 p q r s).2).1.2)) (by omega) (.int .i64 ((bothF (meet0 p q r s).1 (meet0 p q r s).2 (meet0 p q r s).1 (meet0 p q r s).2).2.1))) (by omega) (.int .i64 ((bothF (meet0 p q r s).1 (meet0 p q r s).2 (meet0 p q r s).1 (meet0 p q r s).2).2.2)))).c1
    have k2 := ((((IB.far (g' := w.heap.size + 2) (o := 1) (IB.far (g' := w.heap.size + 2) (o := 0) i3 (by omega) (.int .i64 ((bothF (meet0 p q r s).1 (meet0 p q r s).2 (meet0 p q r s).1 (meet0 p q r s).2).1.1))) (by omega) (.int .i64 ((bothF (meet0 p q r s).1 (meet0 p q r s).2 (meet0 p q r s).1 (meet0 p q r s).2).1.2))).set0 ((bothF (meet0 p q r s).1 (meet0 p q r s).2 (meet0 p q r s).1 (meet0 p q r s).2).2.1)).set1 ((bothF (meet0 p q r s).1 (meet0 p q r s).2 (meet0 p q r s).1 (meet0 p q r s).2).2.2))).c0
    have k3 := ((((IB.far (g' := w.heap.size + 2) (o := 1) (IB.far (g' := w.heap.size + 2) (o := 0) i3 (by omega) (.int .i64 ((bothF (meet0 p q r s).1 (meet0 p q r s).2 (meet0 p q r s).1 (meet0 p q r s).2).1.1))) (by omega) (.int .i64 ((bothF (meet0 p q r s).1 (meet0 p q r s).2 (meet0 p q r s).1 (meet0 p q r s).2).1.2))).set0 ((bothF (meet0 p q r s).1 (meet0 p q r s).2 (meet0 p q r s).1 (meet0 p q r s).2).2.1)).set1 ((bothF (meet0 p q r s).1 (meet0 p q r s).2 (meet0 p q r s).1 (meet0 p q r s).2).2.2))).c1
    simp [results, Try.results26, go_sem, k0, k1, k2, k3]
  · exact below_set (below_set (below_set (below_set hB (by omega) _) (by omega) _) (by omega) _) (by omega) _
end Go.Proofs.Ytdooadomkifbbaa
