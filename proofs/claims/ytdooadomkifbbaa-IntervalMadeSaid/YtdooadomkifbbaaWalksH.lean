/-
  The walks of the reference's both, but, hull and truth. Conditions: words, where bounds are named.
-/
import Derived.Test.YtdooadomkifbbaaWalksE
import Derived.Test.YtdooadomkifbbaaPlain2
namespace Go.Proofs.Ytdooadomkifbbaa
open Go.RowKit
open Go.Proofs.YtdooadomkifbbaaW.PrintLast
attribute [local go_sem high] eqA23
attribute [local go_sem] max2_i min2_i max_2 min_2 max_4 min_4
set_option maxHeartbeats 2000000
set_option maxRecDepth 100000
set_option linter.unusedSimpArgs false
set_option linter.unusedVariables false
theorem both_1 (a b c d : Int) (w : World) (h1 : eqI a b 1 0 = true) : Calls Try.prog 47 #[.agg #[.int .i64 a, .int .i64 b], .agg #[.int .i64 c, .int .i64 d]] w fun e w' => e = .returned (.tuple #[.agg #[.int .i64 1, .int .i64 0], .agg #[.int .i64 1, .int .i64 0]]) ∧ Below w.heap.size w w' := by
  go_enter Try.func47, Try.ntmps47
  go_wp2_with fail
  refine o_start (S := (fun w' => Below w.heap.size w w' ∧ IB w' (w.heap.size) (a) (b) ∧ IB w' (w.heap.size + 1) (c) (d) ∧ IB w' (w.heap.size + 2) (0) (0) ∧ IB w' (w.heap.size + 3) (0) (0))) (ds := []) (.cons 0 1 (.cons 1 2 (.cons 2 0 (.cons 3 0 (.cons 4 1 (.cons 5 2 (.cons 6 0 (.cons 7 0 .nil)))))))) (by kernel_rfl) (by kernel_rfl) (fun _ _ d _ _ h => by cases d <;> exact h) ⟨(((((Below.refl _ _).alloc (Nat.le_refl _) _).alloc (by simp) _).alloc (by simp; omega) _).alloc (by simp; omega) _).drew, ((((IB.new w a b).alloc _).alloc _).alloc _).drew, (((IB.at (by simp) c d).alloc _).alloc _).drew, ((IB.at (by simp) 0 0).alloc _).drew, (IB.at (by simp) 0 0).drew⟩ (fun w1 hS => ?_)
  repeat' (first
    | (refine o_off (a' := ?_) rfl rfl (by rfl) ?_ ?_; rotate_left; (focus (simp only [Act.put, List.setIfInBounds_toArray, List.set_cons_zero, List.set_cons_succ, i64_w, i32_w]; rfl)))
    | (refine o_pure (v := ?_) (a' := ?_) rfl rfl (by rfl) ?_ ?_ ?_; rotate_left 2; (focus (intro w'; go_simp; with_reducible rfl)); (focus (simp only [Act.put, List.setIfInBounds_toArray, List.set_cons_zero, List.set_cons_succ, i64_w, i32_w]; rfl)))
    | (refine o_loadoff (a' := ?_) rfl rfl (by rfl) hS ?_ ?_; rotate_left; (focus (simp only [Act.put, List.setIfInBounds_toArray, List.set_cons_zero, List.set_cons_succ, i64_w, i32_w]; rfl)))
    | (refine o_load (v := ?_) (a' := ?_) rfl rfl (by rfl) hS ?_ ?_ ?_; rotate_left 2; (focus (rintro w' ⟨_, i0, i1, i2, i3⟩; have c0 := i0.c0; have d0 := i0.c1; have c1 := i1.c0; have d1 := i1.c1; have c2 := i2.c0; have d2 := i2.c1; have c3 := i3.c0; have d3 := i3.c1; go_simp; with_reducible rfl)); (focus (simp only [Act.put, List.setIfInBounds_toArray, List.set_cons_zero, List.set_cons_succ, i64_w, i32_w]; rfl)))
    | (refine o_one rfl ?_)
    | (refine o_fork2 rfl rfl ?_ ?_)
    | (refine s_off (a' := ?_) rfl (by rfl) hS ?_ ?_; rotate_left; (focus (simp only [Act.put, List.setIfInBounds_toArray, List.set_cons_zero, List.set_cons_succ, i64_w, i32_w]; rfl)))
    | (refine s_call (f := 13) (a' := ?_) rfl (by rfl) rfl Try.func13 (by kernel_rfl) rfl (rnone_any _) (by (try simp only [List.map_toArray, List.map_cons, List.map_nil]); first | done | rfl) (fun w' hb => ⟨below_call hS.1 hb, IB.below hS.2.1 hb, IB.below hS.2.2.1 hb, IB.below hS.2.2.2.1 hb, IB.below hS.2.2.2.2 hb⟩) ?_ ?_; rotate_left; (focus (simp only [Act.put, List.setIfInBounds_toArray, List.set_cons_zero, List.set_cons_succ, i64_w, i32_w]; rfl)); clear hS; intro w1 hb hS; clear hb))
  refine o_done ?_
  obtain ⟨hB, i0, i1, i2, i3⟩ := hS
  have c0 := i0.c0; have d0 := i0.c1; have c1 := i1.c0; have d1 := i1.c1; have c2 := i2.c0; have d2 := i2.c1; have c3 := i3.c0; have d3 := i3.c1; 
  have f0 := i0.f0 0; have e0 := i0.f0 1
  have f1 := i1.f0 0; have e1 := i1.f0 1
  have f2 := i2.f0 0; have e2 := i2.f0 1
  have f3 := i3.f0 0; have e3 := i3.f0 1
  go_wp2_with (go_at_call 13; refine (rnone_any _).mono ?_; rintro e w3 ⟨rfl, hb⟩; replace hB := below_call hB hb; replace i0 := IB.below i0 hb; have c0 := i0.c0; have d0 := i0.c1; have f0 := i0.f0 0; have e0 := i0.f0 1; replace i1 := IB.below i1 hb; have c1 := i1.c0; have d1 := i1.c1; have f1 := i1.f0 0; have e1 := i1.f0 1; replace i2 := IB.below i2 hb; have c2 := i2.c0; have d2 := i2.c1; have f2 := i2.f0 0; have e2 := i2.f0 1; replace i3 := IB.below i3 hb; have c3 := i3.c0; have d3 := i3.c1; have f3 := i3.f0 0; have e3 := i3.f0 1; clear hb)
  refine bodyPost_ret (v := .tuple #[.agg #[.int .i64 (1), .int .i64 (0)], .agg #[.int .i64 (1), .int .i64 (0)]]) ?_ rfl ⟨rfl, ?_⟩
  · have k0 := ((IB.far (g' := w.heap.size + 3) (o := 1) (IB.far (g' := w.heap.size + 3) (o := 0) ((i2.set0 (1)).set1 (0)) (by omega) (.int .i64 (1))) (by omega) (.int .i64 (0)))).c0
    have k1 := ((IB.far (g' := w.heap.size + 3) (o := 1) (IB.far (g' := w.heap.size + 3) (o := 0) ((i2.set0 (1)).set1 (0)) (by omega) (.int .i64 (1))) (by omega) (.int .i64 (0)))).c1
    have k2 := ((((IB.far (g' := w.heap.size + 2) (o := 1) (IB.far (g' := w.heap.size + 2) (o := 0) i3 (by omega) (.int .i64 (1))) (by omega) (.int .i64 (0))).set0 (1)).set1 (0))).c0
    have k3 := ((((IB.far (g' := w.heap.size + 2) (o := 1) (IB.far (g' := w.heap.size + 2) (o := 0) i3 (by omega) (.int .i64 (1))) (by omega) (.int .i64 (0))).set0 (1)).set1 (0))).c1
    simp [results, Try.results47, go_sem, k0, k1, k2, k3]
  · exact below_set (below_set (below_set (below_set hB (by omega) _) (by omega) _) (by omega) _) (by omega) _
theorem both_2 (a b c d : Int) (w : World) (h1 : eqI a b 1 0 = false) (h2 : eqI c d 1 0 = true) : Calls Try.prog 47 #[.agg #[.int .i64 a, .int .i64 b], .agg #[.int .i64 c, .int .i64 d]] w fun e w' => e = .returned (.tuple #[.agg #[.int .i64 1, .int .i64 0], .agg #[.int .i64 1, .int .i64 0]]) ∧ Below w.heap.size w w' := by
  go_enter Try.func47, Try.ntmps47
  go_wp2_with fail
  refine o_start (S := (fun w' => Below w.heap.size w w' ∧ IB w' (w.heap.size) (a) (b) ∧ IB w' (w.heap.size + 1) (c) (d) ∧ IB w' (w.heap.size + 2) (0) (0) ∧ IB w' (w.heap.size + 3) (0) (0))) (ds := []) (.cons 0 1 (.cons 1 2 (.cons 2 0 (.cons 3 0 (.cons 4 1 (.cons 5 2 (.cons 6 0 (.cons 7 0 .nil)))))))) (by kernel_rfl) (by kernel_rfl) (fun _ _ d _ _ h => by cases d <;> exact h) ⟨(((((Below.refl _ _).alloc (Nat.le_refl _) _).alloc (by simp) _).alloc (by simp; omega) _).alloc (by simp; omega) _).drew, ((((IB.new w a b).alloc _).alloc _).alloc _).drew, (((IB.at (by simp) c d).alloc _).alloc _).drew, ((IB.at (by simp) 0 0).alloc _).drew, (IB.at (by simp) 0 0).drew⟩ (fun w1 hS => ?_)
  repeat' (first
    | (refine o_off (a' := ?_) rfl rfl (by rfl) ?_ ?_; rotate_left; (focus (simp only [Act.put, List.setIfInBounds_toArray, List.set_cons_zero, List.set_cons_succ, i64_w, i32_w]; rfl)))
    | (refine o_pure (v := ?_) (a' := ?_) rfl rfl (by rfl) ?_ ?_ ?_; rotate_left 2; (focus (intro w'; go_simp; with_reducible rfl)); (focus (simp only [Act.put, List.setIfInBounds_toArray, List.set_cons_zero, List.set_cons_succ, i64_w, i32_w]; rfl)))
    | (refine o_loadoff (a' := ?_) rfl rfl (by rfl) hS ?_ ?_; rotate_left; (focus (simp only [Act.put, List.setIfInBounds_toArray, List.set_cons_zero, List.set_cons_succ, i64_w, i32_w]; rfl)))
    | (refine o_load (v := ?_) (a' := ?_) rfl rfl (by rfl) hS ?_ ?_ ?_; rotate_left 2; (focus (rintro w' ⟨_, i0, i1, i2, i3⟩; have c0 := i0.c0; have d0 := i0.c1; have c1 := i1.c0; have d1 := i1.c1; have c2 := i2.c0; have d2 := i2.c1; have c3 := i3.c0; have d3 := i3.c1; go_simp; with_reducible rfl)); (focus (simp only [Act.put, List.setIfInBounds_toArray, List.set_cons_zero, List.set_cons_succ, i64_w, i32_w]; rfl)))
    | (refine o_one rfl ?_)
    | (refine o_fork2 rfl rfl ?_ ?_)
    | (refine s_off (a' := ?_) rfl (by rfl) hS ?_ ?_; rotate_left; (focus (simp only [Act.put, List.setIfInBounds_toArray, List.set_cons_zero, List.set_cons_succ, i64_w, i32_w]; rfl)))
    | (refine s_call (f := 13) (a' := ?_) rfl (by rfl) rfl Try.func13 (by kernel_rfl) rfl (rnone_any _) (by (try simp only [List.map_toArray, List.map_cons, List.map_nil]); first | done | rfl) (fun w' hb => ⟨below_call hS.1 hb, IB.below hS.2.1 hb, IB.below hS.2.2.1 hb, IB.below hS.2.2.2.1 hb, IB.below hS.2.2.2.2 hb⟩) ?_ ?_; rotate_left; (focus (simp only [Act.put, List.setIfInBounds_toArray, List.set_cons_zero, List.set_cons_succ, i64_w, i32_w]; rfl)); clear hS; intro w1 hb hS; clear hb))
  refine o_done ?_
  obtain ⟨hB, i0, i1, i2, i3⟩ := hS
  have c0 := i0.c0; have d0 := i0.c1; have c1 := i1.c0; have d1 := i1.c1; have c2 := i2.c0; have d2 := i2.c1; have c3 := i3.c0; have d3 := i3.c1; 
  have f0 := i0.f0 0; have e0 := i0.f0 1
  have f1 := i1.f0 0; have e1 := i1.f0 1
  have f2 := i2.f0 0; have e2 := i2.f0 1
  have f3 := i3.f0 0; have e3 := i3.f0 1
  go_wp2_with (go_at_call 13; refine (rnone_any _).mono ?_; rintro e w3 ⟨rfl, hb⟩; replace hB := below_call hB hb; replace i0 := IB.below i0 hb; have c0 := i0.c0; have d0 := i0.c1; have f0 := i0.f0 0; have e0 := i0.f0 1; replace i1 := IB.below i1 hb; have c1 := i1.c0; have d1 := i1.c1; have f1 := i1.f0 0; have e1 := i1.f0 1; replace i2 := IB.below i2 hb; have c2 := i2.c0; have d2 := i2.c1; have f2 := i2.f0 0; have e2 := i2.f0 1; replace i3 := IB.below i3 hb; have c3 := i3.c0; have d3 := i3.c1; have f3 := i3.f0 0; have e3 := i3.f0 1; clear hb)
  refine bodyPost_ret (v := .tuple #[.agg #[.int .i64 (1), .int .i64 (0)], .agg #[.int .i64 (1), .int .i64 (0)]]) ?_ rfl ⟨rfl, ?_⟩
  · have k0 := ((IB.far (g' := w.heap.size + 3) (o := 1) (IB.far (g' := w.heap.size + 3) (o := 0) ((i2.set0 (1)).set1 (0)) (by omega) (.int .i64 (1))) (by omega) (.int .i64 (0)))).c0
    have k1 := ((IB.far (g' := w.heap.size + 3) (o := 1) (IB.far (g' := w.heap.size + 3) (o := 0) ((i2.set0 (1)).set1 (0)) (by omega) (.int .i64 (1))) (by omega) (.int .i64 (0)))).c1
    have k2 := ((((IB.far (g' := w.heap.size + 2) (o := 1) (IB.far (g' := w.heap.size + 2) (o := 0) i3 (by omega) (.int .i64 (1))) (by omega) (.int .i64 (0))).set0 (1)).set1 (0))).c0
    have k3 := ((((IB.far (g' := w.heap.size + 2) (o := 1) (IB.far (g' := w.heap.size + 2) (o := 0) i3 (by omega) (.int .i64 (1))) (by omega) (.int .i64 (0))).set0 (1)).set1 (0))).c1
    simp [results, Try.results47, go_sem, k0, k1, k2, k3]
  · exact below_set (below_set (below_set (below_set hB (by omega) _) (by omega) _) (by omega) _) (by omega) _
theorem both_3 (a b c d : Int) (w : World) (h1 : eqI a b 1 0 = false) (h2 : eqI c d 1 0 = false) : Calls Try.prog 47 #[.agg #[.int .i64 a, .int .i64 b], .agg #[.int .i64 c, .int .i64 d]] w fun e w' => e = .returned (.tuple #[.agg #[.int .i64 a, .int .i64 b], .agg #[.int .i64 c, .int .i64 d]]) ∧ Below w.heap.size w w' := by
  go_enter Try.func47, Try.ntmps47
  go_wp2_with fail
  refine o_start (S := (fun w' => Below w.heap.size w w' ∧ IB w' (w.heap.size) (a) (b) ∧ IB w' (w.heap.size + 1) (c) (d) ∧ IB w' (w.heap.size + 2) (0) (0) ∧ IB w' (w.heap.size + 3) (0) (0))) (ds := []) (.cons 0 1 (.cons 1 2 (.cons 2 0 (.cons 3 0 (.cons 4 1 (.cons 5 2 (.cons 6 0 (.cons 7 0 .nil)))))))) (by kernel_rfl) (by kernel_rfl) (fun _ _ d _ _ h => by cases d <;> exact h) ⟨(((((Below.refl _ _).alloc (Nat.le_refl _) _).alloc (by simp) _).alloc (by simp; omega) _).alloc (by simp; omega) _).drew, ((((IB.new w a b).alloc _).alloc _).alloc _).drew, (((IB.at (by simp) c d).alloc _).alloc _).drew, ((IB.at (by simp) 0 0).alloc _).drew, (IB.at (by simp) 0 0).drew⟩ (fun w1 hS => ?_)
  repeat' (first
    | (refine o_off (a' := ?_) rfl rfl (by rfl) ?_ ?_; rotate_left; (focus (simp only [Act.put, List.setIfInBounds_toArray, List.set_cons_zero, List.set_cons_succ, i64_w, i32_w]; rfl)))
    | (refine o_pure (v := ?_) (a' := ?_) rfl rfl (by rfl) ?_ ?_ ?_; rotate_left 2; (focus (intro w'; go_simp; with_reducible rfl)); (focus (simp only [Act.put, List.setIfInBounds_toArray, List.set_cons_zero, List.set_cons_succ, i64_w, i32_w]; rfl)))
    | (refine o_loadoff (a' := ?_) rfl rfl (by rfl) hS ?_ ?_; rotate_left; (focus (simp only [Act.put, List.setIfInBounds_toArray, List.set_cons_zero, List.set_cons_succ, i64_w, i32_w]; rfl)))
    | (refine o_load (v := ?_) (a' := ?_) rfl rfl (by rfl) hS ?_ ?_ ?_; rotate_left 2; (focus (rintro w' ⟨_, i0, i1, i2, i3⟩; have c0 := i0.c0; have d0 := i0.c1; have c1 := i1.c0; have d1 := i1.c1; have c2 := i2.c0; have d2 := i2.c1; have c3 := i3.c0; have d3 := i3.c1; go_simp; with_reducible rfl)); (focus (simp only [Act.put, List.setIfInBounds_toArray, List.set_cons_zero, List.set_cons_succ, i64_w, i32_w]; rfl)))
    | (refine o_one rfl ?_)
    | (refine o_fork2 rfl rfl ?_ ?_)
    | (refine s_off (a' := ?_) rfl (by rfl) hS ?_ ?_; rotate_left; (focus (simp only [Act.put, List.setIfInBounds_toArray, List.set_cons_zero, List.set_cons_succ, i64_w, i32_w]; rfl)))
    | (refine s_call (f := 13) (a' := ?_) rfl (by rfl) rfl Try.func13 (by kernel_rfl) rfl (rnone_any _) (by (try simp only [List.map_toArray, List.map_cons, List.map_nil]); first | done | rfl) (fun w' hb => ⟨below_call hS.1 hb, IB.below hS.2.1 hb, IB.below hS.2.2.1 hb, IB.below hS.2.2.2.1 hb, IB.below hS.2.2.2.2 hb⟩) ?_ ?_; rotate_left; (focus (simp only [Act.put, List.setIfInBounds_toArray, List.set_cons_zero, List.set_cons_succ, i64_w, i32_w]; rfl)); clear hS; intro w1 hb hS; clear hb))
  refine o_done ?_
  obtain ⟨hB, i0, i1, i2, i3⟩ := hS
  have c0 := i0.c0; have d0 := i0.c1; have c1 := i1.c0; have d1 := i1.c1; have c2 := i2.c0; have d2 := i2.c1; have c3 := i3.c0; have d3 := i3.c1; 
  have f0 := i0.f0 0; have e0 := i0.f0 1
  have f1 := i1.f0 0; have e1 := i1.f0 1
  have f2 := i2.f0 0; have e2 := i2.f0 1
  have f3 := i3.f0 0; have e3 := i3.f0 1
  go_wp2_with fail
  refine o_start (S := (fun w' => Below w.heap.size w w' ∧ IB w' (w.heap.size) (a) (b) ∧ IB w' (w.heap.size + 1) (c) (d) ∧ EB w' (w.heap.size + 2) ∧ EB w' (w.heap.size + 3))) (ds := []) (.cons 0 1 (.cons 1 1 (.cons 2 2 (.cons 3 2 .nil)))) (by kernel_rfl) (by kernel_rfl) (fun _ _ d _ _ h => by cases d <;> exact h) ⟨hB.drew, i0.drew, i1.drew, ⟨_, _, i2.drew⟩, ⟨_, _, i3.drew⟩⟩ (fun w1 hS => ?_)
  clear hB i0 c0 d0 f0 e0 i1 c1 d1 f1 e1 i2 c2 d2 f2 e2 i3 c3 d3 f3 e3
  repeat' (first
    | (refine o_load (v := ?_) (a' := ?_) rfl rfl (by rfl) hS ?_ ?_ ?_; rotate_left 2; (focus (rintro w' ⟨_, i0, i1, _⟩; have c0 := i0.c0; have d0 := i0.c1; have c1 := i1.c0; have d1 := i1.c1; go_simp; with_reducible rfl)); (focus (simp only [Act.put, List.setIfInBounds_toArray, List.set_cons_zero, List.set_cons_succ, i64_w, i32_w]; rfl))))
  obtain ⟨hB, i0, i1, ⟨x2, y2, i2⟩, ⟨x3, y3, i3⟩⟩ := hS
  have c0 := i0.c0; have d0 := i0.c1; have c1 := i1.c0; have d1 := i1.c1; have c2 := i2.c0; have d2 := i2.c1; have c3 := i3.c0; have d3 := i3.c1; 
  have f0 := i0.f0 0; have e0 := i0.f0 1
  have f1 := i1.f0 0; have e1 := i1.f0 1
  have f2 := i2.f0 0; have e2 := i2.f0 1
  have f3 := i3.f0 0; have e3 := i3.f0 1
  refine o_one rfl ?_
  refine s_store (w1 := ?_) rfl (by rfl) ?_ ?_ ?_
  rotate_left
  · go_simp
    rfl
  · exact ⟨below_set (below_set hB (by omega) _) (by omega) _, (IB.far (g' := w.heap.size + 2) (o := 1) (IB.far (g' := w.heap.size + 2) (o := 0) i0 (by omega) (.int .i64 (a))) (by omega) (.int .i64 (b))), (IB.far (g' := w.heap.size + 2) (o := 1) (IB.far (g' := w.heap.size + 2) (o := 0) i1 (by omega) (.int .i64 (a))) (by omega) (.int .i64 (b))), ⟨_, _, (i2.set0 (a)).set1 (b)⟩, ⟨_, _, (IB.far (g' := w.heap.size + 2) (o := 1) (IB.far (g' := w.heap.size + 2) (o := 0) i3 (by omega) (.int .i64 (a))) (by omega) (.int .i64 (b)))⟩⟩
  intro _
  refine o_one rfl ?_
  refine s_store (w1 := ?_) rfl (by rfl) ?_ ?_ ?_
  rotate_left
  · go_simp
    rfl
  · exact ⟨below_set (below_set (below_set (below_set hB (by omega) _) (by omega) _) (by omega) _) (by omega) _, (IB.far (g' := w.heap.size + 3) (o := 1) (IB.far (g' := w.heap.size + 3) (o := 0) (IB.far (g' := w.heap.size + 2) (o := 1) (IB.far (g' := w.heap.size + 2) (o := 0) i0 (by omega) (.int .i64 (a))) (by omega) (.int .i64 (b))) (by omega) (.int .i64 (c))) (by omega) (.int .i64 (d))), (IB.far (g' := w.heap.size + 3) (o := 1) (IB.far (g' := w.heap.size + 3) (o := 0) (IB.far (g' := w.heap.size + 2) (o := 1) (IB.far (g' := w.heap.size + 2) (o := 0) i1 (by omega) (.int .i64 (a))) (by omega) (.int .i64 (b))) (by omega) (.int .i64 (c))) (by omega) (.int .i64 (d))), ⟨_, _, (IB.far (g' := w.heap.size + 3) (o := 1) (IB.far (g' := w.heap.size + 3) (o := 0) ((i2.set0 (a)).set1 (b)) (by omega) (.int .i64 (c))) (by omega) (.int .i64 (d)))⟩, ⟨_, _, ((IB.far (g' := w.heap.size + 2) (o := 1) (IB.far (g' := w.heap.size + 2) (o := 0) i3 (by omega) (.int .i64 (a))) (by omega) (.int .i64 (b))).set0 (c)).set1 (d)⟩⟩
  intro _
  refine o_done ?_
  go_wp2
  refine bodyPost_ret (v := .tuple #[.agg #[.int .i64 (a), .int .i64 (b)], .agg #[.int .i64 (c), .int .i64 (d)]]) ?_ rfl ⟨rfl, ?_⟩
  · have k0 := ((IB.far (g' := w.heap.size + 3) (o := 1) (IB.far (g' := w.heap.size + 3) (o := 0) ((i2.set0 (a)).set1 (b)) (by omega) (.int .i64 (c))) (by omega) (.int .i64 (d)))).c0
    have k1 := ((IB.far (g' := w.heap.size + 3) (o := 1) (IB.far (g' := w.heap.size + 3) (o := 0) ((i2.set0 (a)).set1 (b)) (by omega) (.int .i64 (c))) (by omega) (.int .i64 (d)))).c1
    have k2 := ((((IB.far (g' := w.heap.size + 2) (o := 1) (IB.far (g' := w.heap.size + 2) (o := 0) i3 (by omega) (.int .i64 (a))) (by omega) (.int .i64 (b))).set0 (c)).set1 (d))).c0
    have k3 := ((((IB.far (g' := w.heap.size + 2) (o := 1) (IB.far (g' := w.heap.size + 2) (o := 0) i3 (by omega) (.int .i64 (a))) (by omega) (.int .i64 (b))).set0 (c)).set1 (d))).c1
    simp [results, Try.results47, go_sem, k0, k1, k2, k3]
  · exact below_set (below_set (below_set (below_set hB (by omega) _) (by omega) _) (by omega) _) (by omega) _
theorem both_any (a b c d : Int) (w : World) : Calls Try.prog 47 #[.agg #[.int .i64 a, .int .i64 b], .agg #[.int .i64 c, .int .i64 d]] w fun e w' => e = .returned (.tuple #[.agg #[.int .i64 ((bothF a b c d).1).1, .int .i64 ((bothF a b c d).1).2], .agg #[.int .i64 ((bothF a b c d).2).1, .int .i64 ((bothF a b c d).2).2]]) ∧ Below w.heap.size w w' := by
  unfold bothF
  cases h1 : eqI a b 1 0
  · cases h2 : eqI c d 1 0
    · exact both_3 a b c d w h1 h2
    · exact both_2 a b c d w h1 h2
  · exact both_1 a b c d w h1
theorem hull_1 (a b c d : Int) (w : World) (h1 : (mnI (mnI (mnI a b) c) d) < -2147483648) : Calls Try.prog 50 #[.int .i64 a, .int .i64 b, .int .i64 c, .int .i64 d] w fun e w' => e = .returned (.agg #[.int .i64 (-2147483648), .int .i64 (2147483647)]) ∧ Below w.heap.size w w' := by
  go_enter Try.func50, Try.ntmps50
  go_wp2_with (go_at_call 11; refine (rall_any _).mono ?_; rintro e w3 ⟨rfl, hb⟩; have hB := below_call (below_alloc w _) hb; have i0 : IB w3 w.heap.size 0 0 := (IB.new w 0 0).below hb; have c0 := i0.c0; have d0 := i0.c1; have f0 := i0.f0 0; have e0 := i0.f0 1; clear hb)
  refine bodyPost_ret (v := .agg #[.int .i64 (-2147483648), .int .i64 (2147483647)]) ?_ rfl ⟨rfl, ?_⟩
  · have k0 := ((i0.set0 (-2147483648)).set1 (2147483647)).c0
    have k1 := ((i0.set0 (-2147483648)).set1 (2147483647)).c1
    simp [results, Try.results50, go_sem, k0, k1]
  · exact below_set (below_set hB (by omega) _) (by omega) _
theorem hull_2 (a b c d : Int) (w : World) (h1 : ¬ (mnI (mnI (mnI a b) c) d) < -2147483648) (h2 : 2147483647 < (mxI (mxI (mxI a b) c) d)) : Calls Try.prog 50 #[.int .i64 a, .int .i64 b, .int .i64 c, .int .i64 d] w fun e w' => e = .returned (.agg #[.int .i64 (-2147483648), .int .i64 (2147483647)]) ∧ Below w.heap.size w w' := by
  go_enter Try.func50, Try.ntmps50
  go_wp2_with (go_at_call 11; refine (rall_any _).mono ?_; rintro e w3 ⟨rfl, hb⟩; have hB := below_call (below_alloc w _) hb; have i0 : IB w3 w.heap.size 0 0 := (IB.new w 0 0).below hb; have c0 := i0.c0; have d0 := i0.c1; have f0 := i0.f0 0; have e0 := i0.f0 1; clear hb)
  refine bodyPost_ret (v := .agg #[.int .i64 (-2147483648), .int .i64 (2147483647)]) ?_ rfl ⟨rfl, ?_⟩
  · have k0 := ((i0.set0 (-2147483648)).set1 (2147483647)).c0
    have k1 := ((i0.set0 (-2147483648)).set1 (2147483647)).c1
    simp [results, Try.results50, go_sem, k0, k1]
  · exact below_set (below_set hB (by omega) _) (by omega) _
theorem hull_3 (a b c d : Int) (w : World) (h1 : ¬ (mnI (mnI (mnI a b) c) d) < -2147483648) (h2 : ¬ 2147483647 < (mxI (mxI (mxI a b) c) d)) : Calls Try.prog 50 #[.int .i64 a, .int .i64 b, .int .i64 c, .int .i64 d] w fun e w' => e = .returned (.agg #[.int .i64 ((made (mnI (mnI (mnI a b) c) d) (mxI (mxI (mxI a b) c) d)).1), .int .i64 ((made (mnI (mnI (mnI a b) c) d) (mxI (mxI (mxI a b) c) d)).2)]) ∧ Below w.heap.size w w' := by
  go_enter Try.func50, Try.ntmps50
  go_wp2_with (go_at_call 48; refine (rof_any _ _ _).mono ?_; rintro e w3 ⟨rfl, hb⟩; have hB := below_call (below_alloc w _) hb; have i0 : IB w3 w.heap.size 0 0 := (IB.new w 0 0).below hb; have c0 := i0.c0; have d0 := i0.c1; have f0 := i0.f0 0; have e0 := i0.f0 1; clear hb)
  refine bodyPost_ret (v := .agg #[.int .i64 ((made (mnI (mnI (mnI a b) c) d) (mxI (mxI (mxI a b) c) d)).1), .int .i64 ((made (mnI (mnI (mnI a b) c) d) (mxI (mxI (mxI a b) c) d)).2)]) ?_ rfl ⟨rfl, ?_⟩
  · have k0 := ((i0.set0 ((made (mnI (mnI (mnI a b) c) d) (mxI (mxI (mxI a b) c) d)).1)).set1 ((made (mnI (mnI (mnI a b) c) d) (mxI (mxI (mxI a b) c) d)).2)).c0
    have k1 := ((i0.set0 ((made (mnI (mnI (mnI a b) c) d) (mxI (mxI (mxI a b) c) d)).1)).set1 ((made (mnI (mnI (mnI a b) c) d) (mxI (mxI (mxI a b) c) d)).2)).c1
    simp [results, Try.results50, go_sem, k0, k1]
  · exact below_set (below_set hB (by omega) _) (by omega) _
theorem hull_any (a b c d : Int) (w : World) : Calls Try.prog 50 #[.int .i64 a, .int .i64 b, .int .i64 c, .int .i64 d] w fun e w' => e = .returned (.agg #[.int .i64 (hullF (mn4 a b c d) (mx4 a b c d)).1, .int .i64 (hullF (mn4 a b c d) (mx4 a b c d)).2]) ∧ Below w.heap.size w w' := by
  unfold hullF mn4 mx4
  by_cases h1 : (mnI (mnI (mnI a b) c) d) < -2147483648
  · rw [if_pos h1]; exact hull_1 a b c d w h1
  · rw [if_neg h1]
    by_cases h2 : 2147483647 < (mxI (mxI (mxI a b) c) d)
    · rw [if_pos h2]; exact hull_2 a b c d w h1 h2
    · rw [if_neg h2]; exact hull_3 a b c d w h1 h2
theorem rtruth_tt (w : World) : Calls Try.prog 52 #[.bool true, .bool true] w fun e w' => e = .returned (.agg #[.int .i64 1, .int .i64 1]) ∧ Below w.heap.size w w' := by
  have m0 : (made 1 1).1 = 1 := rfl
  have m1 : (made 1 1).2 = 1 := rfl
  go_enter Try.func52, Try.ntmps52
  go_wp2_with (go_at_call 48; refine (rof_any _ _ _).mono ?_; rintro e w3 ⟨rfl, hb⟩; have hB := below_call (below_alloc w _) hb; have i0 : IB w3 w.heap.size 0 0 := (IB.new w 0 0).below hb; have c0 := i0.c0; have d0 := i0.c1; have f0 := i0.f0 0; have e0 := i0.f0 1; clear hb)
  refine bodyPost_ret (v := .agg #[.int .i64 (1), .int .i64 (1)]) ?_ rfl ⟨rfl, ?_⟩
  · have k0 := ((i0.set0 (1)).set1 (1)).c0
    have k1 := ((i0.set0 (1)).set1 (1)).c1
    simp [results, Try.results52, go_sem, k0, k1]
  · exact below_set (below_set hB (by omega) _) (by omega) _
theorem rtruth_tf (w : World) : Calls Try.prog 52 #[.bool true, .bool false] w fun e w' => e = .returned (.agg #[.int .i64 1, .int .i64 1]) ∧ Below w.heap.size w w' := by
  have m0 : (made 1 1).1 = 1 := rfl
  have m1 : (made 1 1).2 = 1 := rfl
  go_enter Try.func52, Try.ntmps52
  go_wp2_with (go_at_call 48; refine (rof_any _ _ _).mono ?_; rintro e w3 ⟨rfl, hb⟩; have hB := below_call (below_alloc w _) hb; have i0 : IB w3 w.heap.size 0 0 := (IB.new w 0 0).below hb; have c0 := i0.c0; have d0 := i0.c1; have f0 := i0.f0 0; have e0 := i0.f0 1; clear hb)
  refine bodyPost_ret (v := .agg #[.int .i64 (1), .int .i64 (1)]) ?_ rfl ⟨rfl, ?_⟩
  · have k0 := ((i0.set0 (1)).set1 (1)).c0
    have k1 := ((i0.set0 (1)).set1 (1)).c1
    simp [results, Try.results52, go_sem, k0, k1]
  · exact below_set (below_set hB (by omega) _) (by omega) _
theorem rtruth_ft (w : World) : Calls Try.prog 52 #[.bool false, .bool true] w fun e w' => e = .returned (.agg #[.int .i64 0, .int .i64 0]) ∧ Below w.heap.size w w' := by
  have m0 : (made 0 0).1 = 0 := rfl
  have m1 : (made 0 0).2 = 0 := rfl
  go_enter Try.func52, Try.ntmps52
  go_wp2_with (go_at_call 48; refine (rof_any _ _ _).mono ?_; rintro e w3 ⟨rfl, hb⟩; have hB := below_call (below_alloc w _) hb; have i0 : IB w3 w.heap.size 0 0 := (IB.new w 0 0).below hb; have c0 := i0.c0; have d0 := i0.c1; have f0 := i0.f0 0; have e0 := i0.f0 1; clear hb)
  refine bodyPost_ret (v := .agg #[.int .i64 (0), .int .i64 (0)]) ?_ rfl ⟨rfl, ?_⟩
  · have k0 := ((i0.set0 (0)).set1 (0)).c0
    have k1 := ((i0.set0 (0)).set1 (0)).c1
    simp [results, Try.results52, go_sem, k0, k1]
  · exact below_set (below_set hB (by omega) _) (by omega) _
theorem rtruth_ff (w : World) : Calls Try.prog 52 #[.bool false, .bool false] w fun e w' => e = .returned (.agg #[.int .i64 0, .int .i64 1]) ∧ Below w.heap.size w w' := by
  have m0 : (made 0 1).1 = 0 := rfl
  have m1 : (made 0 1).2 = 1 := rfl
  go_enter Try.func52, Try.ntmps52
  go_wp2_with (go_at_call 48; refine (rof_any _ _ _).mono ?_; rintro e w3 ⟨rfl, hb⟩; have hB := below_call (below_alloc w _) hb; have i0 : IB w3 w.heap.size 0 0 := (IB.new w 0 0).below hb; have c0 := i0.c0; have d0 := i0.c1; have f0 := i0.f0 0; have e0 := i0.f0 1; clear hb)
  refine bodyPost_ret (v := .agg #[.int .i64 (0), .int .i64 (1)]) ?_ rfl ⟨rfl, ?_⟩
  · have k0 := ((i0.set0 (0)).set1 (1)).c0
    have k1 := ((i0.set0 (0)).set1 (1)).c1
    simp [results, Try.results52, go_sem, k0, k1]
  · exact below_set (below_set hB (by omega) _) (by omega) _
theorem rtruth_any (a b : Bool) (w : World) : Calls Try.prog 52 #[.bool a, .bool b] w fun e w' => e = .returned (.agg #[.int .i64 (truthF a b).1, .int .i64 (truthF a b).2]) ∧ Below w.heap.size w w' := by
  cases a <;> cases b
  · exact rtruth_ff w
  · exact rtruth_ft w
  · exact rtruth_tf w
  · exact rtruth_tt w
theorem but_0 (p q r s : Int) (w : World) (h : (r != s) = true) : Calls Try.prog 49 #[.agg #[.int .i64 p, .int .i64 q], .agg #[.int .i64 r, .int .i64 s]] w fun e w' => e = .returned (.agg #[.int .i64 p, .int .i64 q]) ∧ Below w.heap.size w w' := by
  go_enter Try.func49, Try.ntmps49
  go_wp2
  exact bodyPost_ret (v := .agg #[.int .i64 p, .int .i64 q]) (by simp [results, Try.results49, go_sem]) rfl ⟨rfl, (((Below.refl w.heap.size w).alloc (Nat.le_refl _) _).alloc (by simp) _).alloc (by simp; omega) _⟩
theorem but_1 (p q r : Int) (w : World) (b0 : -2147483648 ≤ p) (b1 : p ≤ 2147483647) (b2 : -2147483648 ≤ q) (b3 : q ≤ 2147483647) (h1 : (p == r) = true) (h2 : (q == r) = true) : Calls Try.prog 49 #[.agg #[.int .i64 p, .int .i64 q], .agg #[.int .i64 r, .int .i64 r]] w fun e w' => e = .returned (.agg #[.int .i64 (made (p + 1) (q - 1)).1, .int .i64 (made (p + 1) (q - 1)).2]) ∧ Below w.heap.size w w' := by
  go_enter Try.func49, Try.ntmps49
  go_wp2_with fail
  refine o_start (S := (fun w' => Below w.heap.size w w' ∧ IB w' (w.heap.size) (p) (q) ∧ IB w' (w.heap.size + 1) (r) (r) ∧ IB w' (w.heap.size + 2) (0) (0))) (ds := []) (.cons 0 0 (.cons 1 1 (.cons 2 0 (.cons 3 1 (.cons 4 0 (.cons 5 0 .nil)))))) (by kernel_rfl) (by kernel_rfl) (fun _ _ d _ _ h => by cases d <;> exact h) ⟨((((Below.refl _ _).alloc (Nat.le_refl _) _).alloc (by simp) _).alloc (by simp; omega) _).drew, (((IB.new w p q).alloc _).alloc _).drew, ((IB.at (by simp) r r).alloc _).drew, (IB.at (by simp) 0 0).drew⟩ (fun w1 hS => ?_)
  repeat' (first
    | (refine o_off (a' := ?_) rfl rfl (by rfl) ?_ ?_; rotate_left; (focus (simp only [Act.put, List.setIfInBounds_toArray, List.set_cons_zero, List.set_cons_succ, i64_w, i32_w]; rfl)))
    | (refine o_pure (v := ?_) (a' := ?_) rfl rfl (by rfl) ?_ ?_ ?_; rotate_left 2; (focus (intro w'; go_simp; with_reducible rfl)); (focus (simp only [Act.put, List.setIfInBounds_toArray, List.set_cons_zero, List.set_cons_succ, i64_w, i32_w]; rfl)))
    | (refine o_loadoff (a' := ?_) rfl rfl (by rfl) hS ?_ ?_; rotate_left; (focus (simp only [Act.put, List.setIfInBounds_toArray, List.set_cons_zero, List.set_cons_succ, i64_w, i32_w]; rfl)))
    | (refine o_load (v := ?_) (a' := ?_) rfl rfl (by rfl) hS ?_ ?_ ?_; rotate_left 2; (focus (rintro w' ⟨_, i0, i1, i2⟩; have c0 := i0.c0; have d0 := i0.c1; have c1 := i1.c0; have d1 := i1.c1; have c2 := i2.c0; have d2 := i2.c1; go_simp; with_reducible rfl)); (focus (simp only [Act.put, List.setIfInBounds_toArray, List.set_cons_zero, List.set_cons_succ, i64_w, i32_w]; rfl)))
    | (refine o_one rfl ?_)
    | (refine o_fork2 rfl rfl ?_ ?_)
    | (refine s_off (a' := ?_) rfl (by rfl) hS ?_ ?_; rotate_left; (focus (simp only [Act.put, List.setIfInBounds_toArray, List.set_cons_zero, List.set_cons_succ, i64_w, i32_w]; rfl))))
  refine o_done ?_
  obtain ⟨hB, i0, i1, i2⟩ := hS
  have c0 := i0.c0; have d0 := i0.c1; have c1 := i1.c0; have d1 := i1.c1; have c2 := i2.c0; have d2 := i2.c1; 
  have f0 := i0.f0 0; have e0 := i0.f0 1
  have f1 := i1.f0 0; have e1 := i1.f0 1
  have f2 := i2.f0 0; have e2 := i2.f0 1
  go_wp2_with (go_at_call 48; refine (rof_any _ _ _).mono ?_; rintro e w3 ⟨rfl, hb⟩; replace hB := below_call hB hb; replace i0 := IB.below i0 hb; have c0 := i0.c0; have d0 := i0.c1; have f0 := i0.f0 0; have e0 := i0.f0 1; replace i1 := IB.below i1 hb; have c1 := i1.c0; have d1 := i1.c1; have f1 := i1.f0 0; have e1 := i1.f0 1; replace i2 := IB.below i2 hb; have c2 := i2.c0; have d2 := i2.c1; have f2 := i2.f0 0; have e2 := i2.f0 1; clear hb)
  refine bodyPost_ret (v := .agg #[.int .i64 ((made (p + 1) (q - 1)).1), .int .i64 ((made (p + 1) (q - 1)).2)]) ?_ rfl ⟨rfl, ?_⟩
  · have k0 := ((i2.set0 ((made (p + 1) (q - 1)).1)).set1 ((made (p + 1) (q - 1)).2)).c0
    have k1 := ((i2.set0 ((made (p + 1) (q - 1)).1)).set1 ((made (p + 1) (q - 1)).2)).c1
    simp [results, Try.results49, go_sem, k0, k1]
  · exact below_set (below_set hB (by omega) _) (by omega) _
theorem but_2 (p q r : Int) (w : World) (b0 : -2147483648 ≤ p) (b1 : p ≤ 2147483647) (b2 : -2147483648 ≤ q) (b3 : q ≤ 2147483647) (h1 : (p == r) = true) (h2 : (q == r) = false) : Calls Try.prog 49 #[.agg #[.int .i64 p, .int .i64 q], .agg #[.int .i64 r, .int .i64 r]] w fun e w' => e = .returned (.agg #[.int .i64 (made (p + 1) (q)).1, .int .i64 (made (p + 1) (q)).2]) ∧ Below w.heap.size w w' := by
  go_enter Try.func49, Try.ntmps49
  go_wp2_with fail
  refine o_start (S := (fun w' => Below w.heap.size w w' ∧ IB w' (w.heap.size) (p) (q) ∧ IB w' (w.heap.size + 1) (r) (r) ∧ IB w' (w.heap.size + 2) (0) (0))) (ds := []) (.cons 0 0 (.cons 1 1 (.cons 2 0 (.cons 3 1 (.cons 4 0 (.cons 5 0 .nil)))))) (by kernel_rfl) (by kernel_rfl) (fun _ _ d _ _ h => by cases d <;> exact h) ⟨((((Below.refl _ _).alloc (Nat.le_refl _) _).alloc (by simp) _).alloc (by simp; omega) _).drew, (((IB.new w p q).alloc _).alloc _).drew, ((IB.at (by simp) r r).alloc _).drew, (IB.at (by simp) 0 0).drew⟩ (fun w1 hS => ?_)
  repeat' (first
    | (refine o_off (a' := ?_) rfl rfl (by rfl) ?_ ?_; rotate_left; (focus (simp only [Act.put, List.setIfInBounds_toArray, List.set_cons_zero, List.set_cons_succ, i64_w, i32_w]; rfl)))
    | (refine o_pure (v := ?_) (a' := ?_) rfl rfl (by rfl) ?_ ?_ ?_; rotate_left 2; (focus (intro w'; go_simp; with_reducible rfl)); (focus (simp only [Act.put, List.setIfInBounds_toArray, List.set_cons_zero, List.set_cons_succ, i64_w, i32_w]; rfl)))
    | (refine o_loadoff (a' := ?_) rfl rfl (by rfl) hS ?_ ?_; rotate_left; (focus (simp only [Act.put, List.setIfInBounds_toArray, List.set_cons_zero, List.set_cons_succ, i64_w, i32_w]; rfl)))
    | (refine o_load (v := ?_) (a' := ?_) rfl rfl (by rfl) hS ?_ ?_ ?_; rotate_left 2; (focus (rintro w' ⟨_, i0, i1, i2⟩; have c0 := i0.c0; have d0 := i0.c1; have c1 := i1.c0; have d1 := i1.c1; have c2 := i2.c0; have d2 := i2.c1; go_simp; with_reducible rfl)); (focus (simp only [Act.put, List.setIfInBounds_toArray, List.set_cons_zero, List.set_cons_succ, i64_w, i32_w]; rfl)))
    | (refine o_one rfl ?_)
    | (refine o_fork2 rfl rfl ?_ ?_)
    | (refine s_off (a' := ?_) rfl (by rfl) hS ?_ ?_; rotate_left; (focus (simp only [Act.put, List.setIfInBounds_toArray, List.set_cons_zero, List.set_cons_succ, i64_w, i32_w]; rfl))))
  refine o_done ?_
  obtain ⟨hB, i0, i1, i2⟩ := hS
  have c0 := i0.c0; have d0 := i0.c1; have c1 := i1.c0; have d1 := i1.c1; have c2 := i2.c0; have d2 := i2.c1; 
  have f0 := i0.f0 0; have e0 := i0.f0 1
  have f1 := i1.f0 0; have e1 := i1.f0 1
  have f2 := i2.f0 0; have e2 := i2.f0 1
  go_wp2_with (go_at_call 48; refine (rof_any _ _ _).mono ?_; rintro e w3 ⟨rfl, hb⟩; replace hB := below_call hB hb; replace i0 := IB.below i0 hb; have c0 := i0.c0; have d0 := i0.c1; have f0 := i0.f0 0; have e0 := i0.f0 1; replace i1 := IB.below i1 hb; have c1 := i1.c0; have d1 := i1.c1; have f1 := i1.f0 0; have e1 := i1.f0 1; replace i2 := IB.below i2 hb; have c2 := i2.c0; have d2 := i2.c1; have f2 := i2.f0 0; have e2 := i2.f0 1; clear hb)
  refine bodyPost_ret (v := .agg #[.int .i64 ((made (p + 1) (q)).1), .int .i64 ((made (p + 1) (q)).2)]) ?_ rfl ⟨rfl, ?_⟩
  · have k0 := ((i2.set0 ((made (p + 1) (q)).1)).set1 ((made (p + 1) (q)).2)).c0
    have k1 := ((i2.set0 ((made (p + 1) (q)).1)).set1 ((made (p + 1) (q)).2)).c1
    simp [results, Try.results49, go_sem, k0, k1]
  · exact below_set (below_set hB (by omega) _) (by omega) _
theorem but_3 (p q r : Int) (w : World) (b0 : -2147483648 ≤ p) (b1 : p ≤ 2147483647) (b2 : -2147483648 ≤ q) (b3 : q ≤ 2147483647) (h1 : (p == r) = false) (h2 : (q == r) = true) : Calls Try.prog 49 #[.agg #[.int .i64 p, .int .i64 q], .agg #[.int .i64 r, .int .i64 r]] w fun e w' => e = .returned (.agg #[.int .i64 (made (p) (q - 1)).1, .int .i64 (made (p) (q - 1)).2]) ∧ Below w.heap.size w w' := by
  go_enter Try.func49, Try.ntmps49
  go_wp2_with fail
  refine o_start (S := (fun w' => Below w.heap.size w w' ∧ IB w' (w.heap.size) (p) (q) ∧ IB w' (w.heap.size + 1) (r) (r) ∧ IB w' (w.heap.size + 2) (0) (0))) (ds := []) (.cons 0 0 (.cons 1 1 (.cons 2 0 (.cons 3 1 (.cons 4 0 (.cons 5 0 .nil)))))) (by kernel_rfl) (by kernel_rfl) (fun _ _ d _ _ h => by cases d <;> exact h) ⟨((((Below.refl _ _).alloc (Nat.le_refl _) _).alloc (by simp) _).alloc (by simp; omega) _).drew, (((IB.new w p q).alloc _).alloc _).drew, ((IB.at (by simp) r r).alloc _).drew, (IB.at (by simp) 0 0).drew⟩ (fun w1 hS => ?_)
  repeat' (first
    | (refine o_off (a' := ?_) rfl rfl (by rfl) ?_ ?_; rotate_left; (focus (simp only [Act.put, List.setIfInBounds_toArray, List.set_cons_zero, List.set_cons_succ, i64_w, i32_w]; rfl)))
    | (refine o_pure (v := ?_) (a' := ?_) rfl rfl (by rfl) ?_ ?_ ?_; rotate_left 2; (focus (intro w'; go_simp; with_reducible rfl)); (focus (simp only [Act.put, List.setIfInBounds_toArray, List.set_cons_zero, List.set_cons_succ, i64_w, i32_w]; rfl)))
    | (refine o_loadoff (a' := ?_) rfl rfl (by rfl) hS ?_ ?_; rotate_left; (focus (simp only [Act.put, List.setIfInBounds_toArray, List.set_cons_zero, List.set_cons_succ, i64_w, i32_w]; rfl)))
    | (refine o_load (v := ?_) (a' := ?_) rfl rfl (by rfl) hS ?_ ?_ ?_; rotate_left 2; (focus (rintro w' ⟨_, i0, i1, i2⟩; have c0 := i0.c0; have d0 := i0.c1; have c1 := i1.c0; have d1 := i1.c1; have c2 := i2.c0; have d2 := i2.c1; go_simp; with_reducible rfl)); (focus (simp only [Act.put, List.setIfInBounds_toArray, List.set_cons_zero, List.set_cons_succ, i64_w, i32_w]; rfl)))
    | (refine o_one rfl ?_)
    | (refine o_fork2 rfl rfl ?_ ?_)
    | (refine s_off (a' := ?_) rfl (by rfl) hS ?_ ?_; rotate_left; (focus (simp only [Act.put, List.setIfInBounds_toArray, List.set_cons_zero, List.set_cons_succ, i64_w, i32_w]; rfl))))
  refine o_done ?_
  obtain ⟨hB, i0, i1, i2⟩ := hS
  have c0 := i0.c0; have d0 := i0.c1; have c1 := i1.c0; have d1 := i1.c1; have c2 := i2.c0; have d2 := i2.c1; 
  have f0 := i0.f0 0; have e0 := i0.f0 1
  have f1 := i1.f0 0; have e1 := i1.f0 1
  have f2 := i2.f0 0; have e2 := i2.f0 1
  go_wp2_with (go_at_call 48; refine (rof_any _ _ _).mono ?_; rintro e w3 ⟨rfl, hb⟩; replace hB := below_call hB hb; replace i0 := IB.below i0 hb; have c0 := i0.c0; have d0 := i0.c1; have f0 := i0.f0 0; have e0 := i0.f0 1; replace i1 := IB.below i1 hb; have c1 := i1.c0; have d1 := i1.c1; have f1 := i1.f0 0; have e1 := i1.f0 1; replace i2 := IB.below i2 hb; have c2 := i2.c0; have d2 := i2.c1; have f2 := i2.f0 0; have e2 := i2.f0 1; clear hb)
  refine bodyPost_ret (v := .agg #[.int .i64 ((made (p) (q - 1)).1), .int .i64 ((made (p) (q - 1)).2)]) ?_ rfl ⟨rfl, ?_⟩
  · have k0 := ((i2.set0 ((made (p) (q - 1)).1)).set1 ((made (p) (q - 1)).2)).c0
    have k1 := ((i2.set0 ((made (p) (q - 1)).1)).set1 ((made (p) (q - 1)).2)).c1
    simp [results, Try.results49, go_sem, k0, k1]
  · exact below_set (below_set hB (by omega) _) (by omega) _
theorem but_4 (p q r : Int) (w : World) (b0 : -2147483648 ≤ p) (b1 : p ≤ 2147483647) (b2 : -2147483648 ≤ q) (b3 : q ≤ 2147483647) (h1 : (p == r) = false) (h2 : (q == r) = false) : Calls Try.prog 49 #[.agg #[.int .i64 p, .int .i64 q], .agg #[.int .i64 r, .int .i64 r]] w fun e w' => e = .returned (.agg #[.int .i64 (made (p) (q)).1, .int .i64 (made (p) (q)).2]) ∧ Below w.heap.size w w' := by
  go_enter Try.func49, Try.ntmps49
  go_wp2_with fail
  refine o_start (S := (fun w' => Below w.heap.size w w' ∧ IB w' (w.heap.size) (p) (q) ∧ IB w' (w.heap.size + 1) (r) (r) ∧ IB w' (w.heap.size + 2) (0) (0))) (ds := []) (.cons 0 0 (.cons 1 1 (.cons 2 0 (.cons 3 1 (.cons 4 0 (.cons 5 0 .nil)))))) (by kernel_rfl) (by kernel_rfl) (fun _ _ d _ _ h => by cases d <;> exact h) ⟨((((Below.refl _ _).alloc (Nat.le_refl _) _).alloc (by simp) _).alloc (by simp; omega) _).drew, (((IB.new w p q).alloc _).alloc _).drew, ((IB.at (by simp) r r).alloc _).drew, (IB.at (by simp) 0 0).drew⟩ (fun w1 hS => ?_)
  repeat' (first
    | (refine o_off (a' := ?_) rfl rfl (by rfl) ?_ ?_; rotate_left; (focus (simp only [Act.put, List.setIfInBounds_toArray, List.set_cons_zero, List.set_cons_succ, i64_w, i32_w]; rfl)))
    | (refine o_pure (v := ?_) (a' := ?_) rfl rfl (by rfl) ?_ ?_ ?_; rotate_left 2; (focus (intro w'; go_simp; with_reducible rfl)); (focus (simp only [Act.put, List.setIfInBounds_toArray, List.set_cons_zero, List.set_cons_succ, i64_w, i32_w]; rfl)))
    | (refine o_loadoff (a' := ?_) rfl rfl (by rfl) hS ?_ ?_; rotate_left; (focus (simp only [Act.put, List.setIfInBounds_toArray, List.set_cons_zero, List.set_cons_succ, i64_w, i32_w]; rfl)))
    | (refine o_load (v := ?_) (a' := ?_) rfl rfl (by rfl) hS ?_ ?_ ?_; rotate_left 2; (focus (rintro w' ⟨_, i0, i1, i2⟩; have c0 := i0.c0; have d0 := i0.c1; have c1 := i1.c0; have d1 := i1.c1; have c2 := i2.c0; have d2 := i2.c1; go_simp; with_reducible rfl)); (focus (simp only [Act.put, List.setIfInBounds_toArray, List.set_cons_zero, List.set_cons_succ, i64_w, i32_w]; rfl)))
    | (refine o_one rfl ?_)
    | (refine o_fork2 rfl rfl ?_ ?_)
    | (refine s_off (a' := ?_) rfl (by rfl) hS ?_ ?_; rotate_left; (focus (simp only [Act.put, List.setIfInBounds_toArray, List.set_cons_zero, List.set_cons_succ, i64_w, i32_w]; rfl))))
  refine o_done ?_
  obtain ⟨hB, i0, i1, i2⟩ := hS
  have c0 := i0.c0; have d0 := i0.c1; have c1 := i1.c0; have d1 := i1.c1; have c2 := i2.c0; have d2 := i2.c1; 
  have f0 := i0.f0 0; have e0 := i0.f0 1
  have f1 := i1.f0 0; have e1 := i1.f0 1
  have f2 := i2.f0 0; have e2 := i2.f0 1
  go_wp2_with (go_at_call 48; refine (rof_any _ _ _).mono ?_; rintro e w3 ⟨rfl, hb⟩; replace hB := below_call hB hb; replace i0 := IB.below i0 hb; have c0 := i0.c0; have d0 := i0.c1; have f0 := i0.f0 0; have e0 := i0.f0 1; replace i1 := IB.below i1 hb; have c1 := i1.c0; have d1 := i1.c1; have f1 := i1.f0 0; have e1 := i1.f0 1; replace i2 := IB.below i2 hb; have c2 := i2.c0; have d2 := i2.c1; have f2 := i2.f0 0; have e2 := i2.f0 1; clear hb)
  refine bodyPost_ret (v := .agg #[.int .i64 ((made (p) (q)).1), .int .i64 ((made (p) (q)).2)]) ?_ rfl ⟨rfl, ?_⟩
  · have k0 := ((i2.set0 ((made (p) (q)).1)).set1 ((made (p) (q)).2)).c0
    have k1 := ((i2.set0 ((made (p) (q)).1)).set1 ((made (p) (q)).2)).c1
    simp [results, Try.results49, go_sem, k0, k1]
  · exact below_set (below_set hB (by omega) _) (by omega) _
theorem but_any (p q r s : Int) (b0 : -2147483648 ≤ p) (b1 : p ≤ 2147483647) (b2 : -2147483648 ≤ q) (b3 : q ≤ 2147483647) (w : World) : Calls Try.prog 49 #[.agg #[.int .i64 p, .int .i64 q], .agg #[.int .i64 r, .int .i64 s]] w fun e w' => e = .returned (.agg #[.int .i64 (butF p q r s).1, .int .i64 (butF p q r s).2]) ∧ Below w.heap.size w w' := by
  unfold butF
  by_cases h : r = s
  · rw [if_pos h]; subst h
    by_cases h1 : p = r <;> by_cases h2 : q = r
    · rw [if_pos h1, if_pos h2]; exact but_1 p q r w b0 b1 b2 b3 (by simpa using h1) (by simpa using h2)
    · rw [if_pos h1, if_neg h2]; exact but_2 p q r w b0 b1 b2 b3 (by simpa using h1) (by simpa using h2)
    · rw [if_neg h1, if_pos h2]; exact but_3 p q r w b0 b1 b2 b3 (by simpa using h1) (by simpa using h2)
    · rw [if_neg h1, if_neg h2]; exact but_4 p q r w b0 b1 b2 b3 (by simpa using h1) (by simpa using h2)
  · rw [if_neg h]; exact but_0 p q r s w (by simpa using h)
end Go.Proofs.Ytdooadomkifbbaa
