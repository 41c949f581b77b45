/-
  The law's examples 'awake', by walks of Do and Refine at one operator each. No condition.
-/
import Derived.Test.YtdooadomkifbbaaWalksE
import Derived.Test.YtdooadomkifbbaaPlain4
namespace Go.Proofs.Ytdooadomkifbbaa
open Go.RowKit
open Go.Proofs.YtdooadomkifbbaaW.PrintLast
attribute [local go_sem high] eqA23
attribute [local go_sem] max2_i min2_i max_2 min_2 max_4 min_4
set_option maxHeartbeats 2000000
set_option maxRecDepth 100000
set_option linter.unusedSimpArgs false
set_option linter.unusedVariables false
theorem doL_1 (a b c d p q r s : Int) (w : World) (hpq : fixP a b = (p, q)) (hrs : fixP c d = (r, s)) (h1 : emptyB p q = false) (h2 : emptyB r s = false) (b0 : -2147483648 ≤ p) (b1 : p ≤ 2147483647) (b2 : -2147483648 ≤ q) (b3 : q ≤ 2147483647) (b4 : -2147483648 ≤ r) (b5 : r ≤ 2147483647) (b6 : -2147483648 ≤ s) (b7 : s ≤ 2147483647) :
    Calls Try.prog 16 #[.int .i64 1, .agg #[.int .i64 a, .int .i64 b], .agg #[.int .i64 c, .int .i64 d]] w fun e w' => e = .returned (.agg #[.int .i64 (aroundF (mnI (p + r) (q + s)) (mxI (p + r) (q + s))).1, .int .i64 (aroundF (mnI (p + r) (q + s)) (mxI (p + r) (q + s))).2]) ∧ Below w.heap.size w w' := by
  have Hpq := Lib.hid hpq; have Hrs := Lib.hid hrs; clear hpq hrs
  go_enter Try.func16, Try.ntmps16
  go_wp2_with fail
  refine o_start (S := (fun w' => Below w.heap.size w w' ∧ IB w' (w.heap.size) (a) (b) ∧ IB w' (w.heap.size + 1) (c) (d) ∧ IB w' (w.heap.size + 2) (0) (0))) (ds := [4, 5]) (.cons 0 1 (.cons 2 1 (.cons 1 2 (.cons 3 2 (.cons 4 3 (.cons 5 3 .nil)))))) (by kernel_rfl) (by kernel_rfl) (fun _ _ d _ _ h => by cases d <;> exact h) ⟨((((Below.refl _ _).alloc (Nat.le_refl _) _).alloc (by simp) _).alloc (by simp; omega) _).drew, (((IB.new w a b).alloc _).alloc _).drew, ((IB.at (by simp) c d).alloc _).drew, (IB.at (by simp) 0 0).drew⟩ (fun w1 hS => ?_)
  repeat' (first
    | (refine o_off (a' := ?_) rfl rfl (by rfl) ?_ ?_; rotate_left; (focus (simp only [Act.put, List.setIfInBounds_toArray, List.set_cons_zero, List.set_cons_succ, i64_w, i32_w]; rfl)))
    | (refine o_pure (v := ?_) (a' := ?_) rfl rfl (by rfl) ?_ ?_ ?_; rotate_left 2; (focus (intro w'; go_simp; with_reducible rfl)); (focus (simp only [Act.put, List.setIfInBounds_toArray, List.set_cons_zero, List.set_cons_succ, i64_w, i32_w]; rfl)))
    | (refine o_loadoff (a' := ?_) rfl rfl (by rfl) hS ?_ ?_; rotate_left; (focus (simp only [Act.put, List.setIfInBounds_toArray, List.set_cons_zero, List.set_cons_succ, i64_w, i32_w]; rfl)))
    | (refine o_load (v := ?_) (a' := ?_) rfl rfl (by rfl) hS ?_ ?_ ?_; rotate_left 2; (focus (rintro w' ⟨_, i0, i1, i2⟩; have c0 := i0.c0; have d0 := i0.c1; have c1 := i1.c0; have d1 := i1.c1; have c2 := i2.c0; have d2 := i2.c1; go_simp; with_reducible rfl)); (focus (simp only [Act.put, List.setIfInBounds_toArray, List.set_cons_zero, List.set_cons_succ, i64_w, i32_w]; rfl)))
    | (refine o_one rfl ?_)
    | (refine o_fork2 rfl rfl ?_ ?_)
    | (refine s_off (a' := ?_) rfl (by rfl) hS ?_ ?_; rotate_left; (focus (simp only [Act.put, List.setIfInBounds_toArray, List.set_cons_zero, List.set_cons_succ, i64_w, i32_w]; rfl)))
    | (refine s_call (f := 33) (a' := ?_) rfl (by rfl) rfl Try.func33 (by kernel_rfl) rfl (fix_as Hpq.out _) (by (try simp only [List.map_toArray, List.map_cons, List.map_nil]); first | done | rfl) (fun w' hb => ⟨below_call hS.1 hb, IB.below hS.2.1 hb, IB.below hS.2.2.1 hb, IB.below hS.2.2.2 hb⟩) ?_ ?_; rotate_left; (focus (simp only [Act.put, List.setIfInBounds_toArray, List.set_cons_zero, List.set_cons_succ, i64_w, i32_w]; rfl)); clear hS; intro w1 hb hS; clear hb)
    | (refine s_call (f := 33) (a' := ?_) rfl (by rfl) rfl Try.func33 (by kernel_rfl) rfl (fix_as Hrs.out _) (by (try simp only [List.map_toArray, List.map_cons, List.map_nil]); first | done | rfl) (fun w' hb => ⟨below_call hS.1 hb, IB.below hS.2.1 hb, IB.below hS.2.2.1 hb, IB.below hS.2.2.2 hb⟩) ?_ ?_; rotate_left; (focus (simp only [Act.put, List.setIfInBounds_toArray, List.set_cons_zero, List.set_cons_succ, i64_w, i32_w]; rfl)); clear hS; intro w1 hb hS; clear hb))
  obtain ⟨hB, i0, i1, i2⟩ := hS
  have c0 := i0.c0; have d0 := i0.c1; have c1 := i1.c0; have d1 := i1.c1; have c2 := i2.c0; have d2 := i2.c1; 
  have f0 := i0.f0 0; have e0 := i0.f0 1
  have f1 := i1.f0 0; have e1 := i1.f0 1
  have f2 := i2.f0 0; have e2 := i2.f0 1
  (refine o_store (w1 := ?_) rfl rfl (by rfl) ?_ ?_; rotate_left; (focus (go_simp; rfl)))
  (refine o_store (w1 := ?_) rfl rfl (by rfl) ?_ ?_; rotate_left; (focus (go_simp; rfl)))
  refine o_close (S' := (fun w' => Below w.heap.size w w' ∧ IB w' (w.heap.size) (p) (q) ∧ IB w' (w.heap.size + 1) (r) (s) ∧ IB w' (w.heap.size + 2) (0) (0))) ⟨below_set (below_set (below_set (below_set hB (by omega) _) (by omega) _) (by omega) _) (by omega) _, ((((i0.set0 p).set1 q).far (by omega) _).far (by omega) _), (((((i1.far (by omega) _).far (by omega) _).set0 r)).set1 s), ((((i2.far (by omega) _).far (by omega) _).far (by omega) _).far (by omega) _)⟩ (fun w2 hS => ?_)
  clear i0 c0 d0 f0 e0 i1 c1 d1 f1 e1 i2 c2 d2 f2 e2 hB
  obtain ⟨hB, i0, i1, i2⟩ := hS
  have c0 := i0.c0; have d0 := i0.c1; have c1 := i1.c0; have d1 := i1.c1; have c2 := i2.c0; have d2 := i2.c1; 
  have f0 := i0.f0 0; have e0 := i0.f0 1
  have f1 := i1.f0 0; have e1 := i1.f0 1
  have f2 := i2.f0 0; have e2 := i2.f0 1
  go_wp2_with (go_at_call 34; refine (empty_any _ _ _).mono ?_; rintro e w3 ⟨rfl, hb⟩; replace hB := below_call hB hb; replace i0 := IB.below i0 hb; have c0 := i0.c0; have d0 := i0.c1; have f0 := i0.f0 0; have e0 := i0.f0 1; replace i1 := IB.below i1 hb; have c1 := i1.c0; have d1 := i1.c1; have f1 := i1.f0 0; have e1 := i1.f0 1; replace i2 := IB.below i2 hb; have c2 := i2.c0; have d2 := i2.c1; have f2 := i2.f0 0; have e2 := i2.f0 1; clear hb)
  refine o_start (S := (fun w' => Below w.heap.size w w' ∧ IB w' (w.heap.size) (p) (q) ∧ IB w' (w.heap.size + 1) (r) (s) ∧ IB w' (w.heap.size + 2) (0) (0))) (ds := []) (.cons 0 0 (.cons 1 1 (.cons 2 0 (.cons 3 1 (.cons 4 0 (.cons 5 1 (.cons 6 0 (.cons 7 1 (.cons 8 0 (.cons 9 0 (.cons 10 0 (.cons 11 0 .nil)))))))))))) (by kernel_rfl) (by kernel_rfl) (fun _ _ d _ _ h => by cases d <;> exact h) ⟨hB.drew, i0.drew, i1.drew, i2.drew⟩ (fun w1 hS => ?_)
  clear hB i0 c0 d0 f0 e0 i1 c1 d1 f1 e1 i2 c2 d2 f2 e2
  repeat' (first
    | (refine o_off (a' := ?_) rfl rfl (by rfl) ?_ ?_; rotate_left; (focus (simp only [Act.put, List.setIfInBounds_toArray, List.set_cons_zero, List.set_cons_succ, i64_w, i32_w]; rfl)))
    | (refine o_pure (v := ?_) (a' := ?_) rfl rfl (by rfl) ?_ ?_ ?_; rotate_left 2; (focus (intro w'; go_simp; with_reducible rfl)); (focus (simp only [Act.put, List.setIfInBounds_toArray, List.set_cons_zero, List.set_cons_succ, i64_w, i32_w]; rfl)))
    | (refine o_loadoff (a' := ?_) rfl rfl (by rfl) hS ?_ ?_; rotate_left; (focus (simp only [Act.put, List.setIfInBounds_toArray, List.set_cons_zero, List.set_cons_succ, i64_w, i32_w]; rfl)))
    | (refine o_load (v := ?_) (a' := ?_) rfl rfl (by rfl) hS ?_ ?_ ?_; rotate_left 2; (focus (rintro w' ⟨_, i0, i1, i2⟩; have c0 := i0.c0; have d0 := i0.c1; have c1 := i1.c0; have d1 := i1.c1; have c2 := i2.c0; have d2 := i2.c1; go_simp; with_reducible rfl)); (focus (simp only [Act.put, List.setIfInBounds_toArray, List.set_cons_zero, List.set_cons_succ, i64_w, i32_w]; rfl)))
    | (refine o_one rfl ?_)
    | (refine o_fork2 rfl rfl ?_ ?_)
    | (refine s_off (a' := ?_) rfl (by rfl) hS ?_ ?_; rotate_left; (focus (simp only [Act.put, List.setIfInBounds_toArray, List.set_cons_zero, List.set_cons_succ, i64_w, i32_w]; rfl))))
  refine o_done ?_
  obtain ⟨hB, i0, i1, i2⟩ := hS
  have c0 := i0.c0; have d0 := i0.c1; have c1 := i1.c0; have d1 := i1.c1; have c2 := i2.c0; have d2 := i2.c1; 
  have f0 := i0.f0 0; have e0 := i0.f0 1
  have f1 := i1.f0 0; have e1 := i1.f0 1
  have f2 := i2.f0 0; have e2 := i2.f0 1
  go_wp2_with (go_at_call 35; refine (around1 _ _ _ _ (SB.new1 _ _)).mono ?_; rintro e w3 ⟨rfl, hb⟩; replace hB := below_call (hB.alloc hB.size _) hb; replace i0 := IB.below (i0.alloc _) hb; have c0 := i0.c0; have d0 := i0.c1; have f0 := i0.f0 0; have e0 := i0.f0 1; replace i1 := IB.below (i1.alloc _) hb; have c1 := i1.c0; have d1 := i1.c1; have f1 := i1.f0 0; have e1 := i1.f0 1; replace i2 := IB.below (i2.alloc _) hb; have c2 := i2.c0; have d2 := i2.c1; have f2 := i2.f0 0; have e2 := i2.f0 1; clear hb)
  refine bodyPost_ret (v := .agg #[.int .i64 ((aroundF (mnI (p + r) (q + s)) (mxI (p + r) (q + s))).1), .int .i64 ((aroundF (mnI (p + r) (q + s)) (mxI (p + r) (q + s))).2)]) ?_ rfl ⟨rfl, ?_⟩
  · have k0 := ((i2.set0 ((aroundF (mnI (p + r) (q + s)) (mxI (p + r) (q + s))).1)).set1 ((aroundF (mnI (p + r) (q + s)) (mxI (p + r) (q + s))).2)).c0
    have k1 := ((i2.set0 ((aroundF (mnI (p + r) (q + s)) (mxI (p + r) (q + s))).1)).set1 ((aroundF (mnI (p + r) (q + s)) (mxI (p + r) (q + s))).2)).c1
    simp [results, Try.results16, go_sem, k0, k1]
  · exact below_set (below_set hB (by omega) _) (by omega) _
theorem rfL_11t (a b c d p q r s : Int) (w : World) (hpq : fixP a b = (p, q)) (hrs : fixP c d = (r, s)) (h1 : emptyB p q = false) (h2 : emptyB r s = false) (b0 : -2147483648 ≤ p) (b1 : p ≤ 2147483647) (b2 : -2147483648 ≤ q) (b3 : q ≤ 2147483647) (b4 : -2147483648 ≤ r) (b5 : r ≤ 2147483647) (b6 : -2147483648 ≤ s) (b7 : s ≤ 2147483647) :
    Calls Try.prog 22 #[.int .i64 11, .bool true, .agg #[.int .i64 a, .int .i64 b], .agg #[.int .i64 c, .int .i64 d]] w fun e w' => e = .returned (.tuple #[.agg #[.int .i64 ((finF (made p (mnI q (s - 1))) (made (mxI r (p + 1)) s)).1).1, .int .i64 ((finF (made p (mnI q (s - 1))) (made (mxI r (p + 1)) s)).1).2], .agg #[.int .i64 ((finF (made p (mnI q (s - 1))) (made (mxI r (p + 1)) s)).2).1, .int .i64 ((finF (made p (mnI q (s - 1))) (made (mxI r (p + 1)) s)).2).2]]) ∧ Below w.heap.size w w' := by
  have Hpq := Lib.hid hpq; have Hrs := Lib.hid hrs; clear hpq hrs
  have v0 : wrap64 (s - 1) = s - 1 := w64_in (by omega) (by omega)
  have v1 : wrap64 (p + 1) = p + 1 := w64_in (by omega) (by omega)
  have v2 : wrap64 (r + 1) = r + 1 := w64_in (by omega) (by omega)
  have v3 : wrap64 (q - 1) = q - 1 := w64_in (by omega) (by omega)
  go_enter Try.func22, Try.ntmps22
  go_wp2_with fail
  refine o_start (S := (fun w' => Below w.heap.size w w' ∧ IB w' (w.heap.size) (a) (b) ∧ IB w' (w.heap.size + 1) (c) (d) ∧ IB w' (w.heap.size + 2) (0) (0) ∧ IB w' (w.heap.size + 3) (0) (0))) (ds := [4, 5]) (.cons 0 1 (.cons 2 1 (.cons 1 2 (.cons 3 2 (.cons 4 3 (.cons 5 3 .nil)))))) (by kernel_rfl) (by kernel_rfl) (fun _ _ d _ _ h => by cases d <;> exact h) ⟨(((((Below.refl _ _).alloc (Nat.le_refl _) _).alloc (by simp) _).alloc (by simp; omega) _).alloc (by simp; omega) _).drew, ((((IB.new w a b).alloc _).alloc _).alloc _).drew, (((IB.at (by simp) c d).alloc _).alloc _).drew, ((IB.at (by simp) 0 0).alloc _).drew, (IB.at (by simp) 0 0).drew⟩ (fun w1 hS => ?_)
  repeat' (first
    | (refine o_off (a' := ?_) rfl rfl (by rfl) ?_ ?_; rotate_left; (focus (simp only [Act.put, List.setIfInBounds_toArray, List.set_cons_zero, List.set_cons_succ, i64_w, i32_w]; rfl)))
    | (refine o_pure (v := ?_) (a' := ?_) rfl rfl (by rfl) ?_ ?_ ?_; rotate_left 2; (focus (intro w'; go_simp; with_reducible rfl)); (focus (simp only [Act.put, List.setIfInBounds_toArray, List.set_cons_zero, List.set_cons_succ, i64_w, i32_w]; rfl)))
    | (refine o_loadoff (a' := ?_) rfl rfl (by rfl) hS ?_ ?_; rotate_left; (focus (simp only [Act.put, List.setIfInBounds_toArray, List.set_cons_zero, List.set_cons_succ, i64_w, i32_w]; rfl)))
    | (refine o_load (v := ?_) (a' := ?_) rfl rfl (by rfl) hS ?_ ?_ ?_; rotate_left 2; (focus (rintro w' ⟨_, i0, i1, i2, i3⟩; have c0 := i0.c0; have d0 := i0.c1; have c1 := i1.c0; have d1 := i1.c1; have c2 := i2.c0; have d2 := i2.c1; have c3 := i3.c0; have d3 := i3.c1; go_simp; with_reducible rfl)); (focus (simp only [Act.put, List.setIfInBounds_toArray, List.set_cons_zero, List.set_cons_succ, i64_w, i32_w]; rfl)))
    | (refine o_one rfl ?_)
    | (refine o_fork2 rfl rfl ?_ ?_)
    | (refine s_off (a' := ?_) rfl (by rfl) hS ?_ ?_; rotate_left; (focus (simp only [Act.put, List.setIfInBounds_toArray, List.set_cons_zero, List.set_cons_succ, i64_w, i32_w]; rfl)))
    | (refine s_call (f := 33) (a' := ?_) rfl (by rfl) rfl Try.func33 (by kernel_rfl) rfl (fix_as Hpq.out _) (by (try simp only [List.map_toArray, List.map_cons, List.map_nil]); first | done | rfl) (fun w' hb => ⟨below_call hS.1 hb, IB.below hS.2.1 hb, IB.below hS.2.2.1 hb, IB.below hS.2.2.2.1 hb, IB.below hS.2.2.2.2 hb⟩) ?_ ?_; rotate_left; (focus (simp only [Act.put, List.setIfInBounds_toArray, List.set_cons_zero, List.set_cons_succ, i64_w, i32_w]; rfl)); clear hS; intro w1 hb hS; clear hb)
    | (refine s_call (f := 33) (a' := ?_) rfl (by rfl) rfl Try.func33 (by kernel_rfl) rfl (fix_as Hrs.out _) (by (try simp only [List.map_toArray, List.map_cons, List.map_nil]); first | done | rfl) (fun w' hb => ⟨below_call hS.1 hb, IB.below hS.2.1 hb, IB.below hS.2.2.1 hb, IB.below hS.2.2.2.1 hb, IB.below hS.2.2.2.2 hb⟩) ?_ ?_; rotate_left; (focus (simp only [Act.put, List.setIfInBounds_toArray, List.set_cons_zero, List.set_cons_succ, i64_w, i32_w]; rfl)); clear hS; intro w1 hb hS; clear hb))
  obtain ⟨hB, i0, i1, i2, i3⟩ := hS
  have c0 := i0.c0; have d0 := i0.c1; have c1 := i1.c0; have d1 := i1.c1; have c2 := i2.c0; have d2 := i2.c1; have c3 := i3.c0; have d3 := i3.c1; 
  have f0 := i0.f0 0; have e0 := i0.f0 1
  have f1 := i1.f0 0; have e1 := i1.f0 1
  have f2 := i2.f0 0; have e2 := i2.f0 1
  have f3 := i3.f0 0; have e3 := i3.f0 1
  (refine o_store (w1 := ?_) rfl rfl (by rfl) ?_ ?_; rotate_left; (focus (go_simp; rfl)))
  (refine o_store (w1 := ?_) rfl rfl (by rfl) ?_ ?_; rotate_left; (focus (go_simp; rfl)))
  refine o_close (S' := (fun w' => Below w.heap.size w w' ∧ IB w' (w.heap.size) (p) (q) ∧ IB w' (w.heap.size + 1) (r) (s) ∧ IB w' (w.heap.size + 2) (0) (0) ∧ IB w' (w.heap.size + 3) (0) (0))) ⟨below_set (below_set (below_set (below_set hB (by omega) _) (by omega) _) (by omega) _) (by omega) _, ((((i0.set0 p).set1 q).far (by omega) _).far (by omega) _), (((((i1.far (by omega) _).far (by omega) _).set0 r)).set1 s), ((((i2.far (by omega) _).far (by omega) _).far (by omega) _).far (by omega) _), ((((i3.far (by omega) _).far (by omega) _).far (by omega) _).far (by omega) _)⟩ (fun w2 hS => ?_)
  clear i0 c0 d0 f0 e0 i1 c1 d1 f1 e1 i2 c2 d2 f2 e2 i3 c3 d3 f3 e3 hB
  obtain ⟨hB, i0, i1, i2, i3⟩ := hS
  have c0 := i0.c0; have d0 := i0.c1; have c1 := i1.c0; have d1 := i1.c1; have c2 := i2.c0; have d2 := i2.c1; have c3 := i3.c0; have d3 := i3.c1; 
  have f0 := i0.f0 0; have e0 := i0.f0 1
  have f1 := i1.f0 0; have e1 := i1.f0 1
  have f2 := i2.f0 0; have e2 := i2.f0 1
  have f3 := i3.f0 0; have e3 := i3.f0 1
  go_wp2_with (go_at_call 34; refine (empty_any _ _ _).mono ?_; rintro e w3 ⟨rfl, hb⟩; replace hB := below_call hB hb; replace i0 := IB.below i0 hb; have c0 := i0.c0; have d0 := i0.c1; have f0 := i0.f0 0; have e0 := i0.f0 1; replace i1 := IB.below i1 hb; have c1 := i1.c0; have d1 := i1.c1; have f1 := i1.f0 0; have e1 := i1.f0 1; replace i2 := IB.below i2 hb; have c2 := i2.c0; have d2 := i2.c1; have f2 := i2.f0 0; have e2 := i2.f0 1; replace i3 := IB.below i3 hb; have c3 := i3.c0; have d3 := i3.c1; have f3 := i3.f0 0; have e3 := i3.f0 1; clear hb; have l0 := i0.lt; have l1 := i1.lt; have l2 := i2.lt; have l3 := i3.lt)
  have L : w.heap.size + 4 ≤ w3.heap.size := i3.lt
  generalize hg : w3.heap.size = g
  have hB' : Below w.heap.size w ((w3.alloc (.cells #[.int .i64 0, .int .i64 0] 23)).alloc (.cells #[.int .i64 0, .int .i64 0] 23)) := (hB.alloc hB.size _).alloc (by have := hB.size; simp; omega) _
  have i4 : IB ((w3.alloc (.cells #[.int .i64 0, .int .i64 0] 23)).alloc (.cells #[.int .i64 0, .int .i64 0] 23)) g 0 0 := (IB.at hg 0 0).alloc _
  have i5 : IB ((w3.alloc (.cells #[.int .i64 0, .int .i64 0] 23)).alloc (.cells #[.int .i64 0, .int .i64 0] 23)) (g + 1) 0 0 := IB.at (by simp [hg]) 0 0
  have j0 := (i0.alloc (.cells #[.int .i64 0, .int .i64 0] 23)).alloc (.cells #[.int .i64 0, .int .i64 0] 23)
  have j1 := (i1.alloc (.cells #[.int .i64 0, .int .i64 0] 23)).alloc (.cells #[.int .i64 0, .int .i64 0] 23)
  have j2 := (i2.alloc (.cells #[.int .i64 0, .int .i64 0] 23)).alloc (.cells #[.int .i64 0, .int .i64 0] 23)
  have j3 := (i3.alloc (.cells #[.int .i64 0, .int .i64 0] 23)).alloc (.cells #[.int .i64 0, .int .i64 0] 23)
  rw [hg] at L
  clear i0 c0 d0 f0 e0 l0 i1 c1 d1 f1 e1 l1 i2 c2 d2 f2 e2 l2 i3 c3 d3 f3 e3 l3 hB
  have hB := hB'; have i0 := j0; have i1 := j1; have i2 := j2; have i3 := j3
  clear hB' j0 j1 j2 j3
  refine o_start (S := (fun w' => Below w.heap.size w w' ∧ IB w' (w.heap.size) (p) (q) ∧ IB w' (w.heap.size + 1) (r) (s) ∧ IB w' (w.heap.size + 2) (0) (0) ∧ IB w' (w.heap.size + 3) (0) (0) ∧ IB w' (g) (0) (0) ∧ IB w' (g + 1) (0) (0))) (ds := [18, 19]) (.cons 0 0 (.cons 1 1 (.cons 2 0 (.cons 3 1 (.cons 4 0 (.cons 5 1 (.cons 6 0 (.cons 7 0 (.cons 9 0 (.cons 10 1 (.cons 11 0 (.cons 12 1 (.cons 13 0 (.cons 14 0 (.cons 15 0 (.cons 16 1 (.cons 8 2 (.cons 17 2 (.cons 18 3 (.cons 19 3 .nil)))))))))))))))))))) (by kernel_rfl) (by kernel_rfl) (fun _ _ d _ _ h => by cases d <;> exact h) ⟨hB.drew, i0.drew, i1.drew, i2.drew, i3.drew, i4.drew, i5.drew⟩ (fun w1 hS => ?_)
  clear hB i0 i1 i2 i3 i4 i5
  repeat' (first
    | (refine o_off (a' := ?_) rfl rfl (by rfl) ?_ ?_; rotate_left; (focus (simp only [Act.put, List.setIfInBounds_toArray, List.set_cons_zero, List.set_cons_succ, i64_w, i32_w, v0, v1, v2, v3]; rfl)))
    | (refine o_pure (v := ?_) (a' := ?_) rfl rfl (by rfl) ?_ ?_ ?_; rotate_left 2; (focus (intro w'; go_simp; with_reducible rfl)); (focus (simp only [Act.put, List.setIfInBounds_toArray, List.set_cons_zero, List.set_cons_succ, i64_w, i32_w, v0, v1, v2, v3]; rfl)))
    | (refine o_loadoff (a' := ?_) rfl rfl (by rfl) hS ?_ ?_; rotate_left; (focus (simp only [Act.put, List.setIfInBounds_toArray, List.set_cons_zero, List.set_cons_succ, i64_w, i32_w, v0, v1, v2, v3]; rfl)))
    | (refine o_load (v := ?_) (a' := ?_) rfl rfl (by rfl) hS ?_ ?_ ?_; rotate_left 2; (focus (rintro w' ⟨_, i0, i1, _⟩; have c0 := i0.c0; have d0 := i0.c1; have c1 := i1.c0; have d1 := i1.c1; go_simp; with_reducible rfl)); (focus (simp only [Act.put, List.setIfInBounds_toArray, List.set_cons_zero, List.set_cons_succ, i64_w, i32_w, v0, v1, v2, v3]; rfl)))
    | (refine o_one rfl ?_)
    | (refine o_fork2 rfl rfl ?_ ?_)
    | (refine s_off (a' := ?_) rfl (by rfl) hS ?_ ?_; rotate_left; (focus (simp only [Act.put, List.setIfInBounds_toArray, List.set_cons_zero, List.set_cons_succ, i64_w, i32_w, v0, v1, v2, v3]; rfl)))
    | (refine s_call (f := 42) (a' := ?_) rfl (by rfl) rfl Try.func42 (by kernel_rfl) rfl (made_any _ _ _) (by (try simp only [List.map_toArray, List.map_cons, List.map_nil]); first | done | rfl) (fun w' hb => ⟨below_call hS.1 hb, IB.below hS.2.1 hb, IB.below hS.2.2.1 hb, IB.below hS.2.2.2.1 hb, IB.below hS.2.2.2.2.1 hb, IB.below hS.2.2.2.2.2.1 hb, IB.below hS.2.2.2.2.2.2 hb⟩) ?_ ?_; rotate_left; (focus (simp only [Act.put, List.setIfInBounds_toArray, List.set_cons_zero, List.set_cons_succ, i64_w, i32_w, v0, v1, v2, v3]; rfl)); clear hS; intro w1 hb hS; clear hb))
  obtain ⟨hB, i0, i1, i2, i3, i4, i5⟩ := hS
  have c0 := i0.c0; have d0 := i0.c1; have c1 := i1.c0; have d1 := i1.c1; have c2 := i2.c0; have d2 := i2.c1; have c3 := i3.c0; have d3 := i3.c1; have c4 := i4.c0; have d4 := i4.c1; have c5 := i5.c0; have d5 := i5.c1; 
  have f0 := i0.f0 0; have e0 := i0.f0 1
  have f1 := i1.f0 0; have e1 := i1.f0 1
  have f2 := i2.f0 0; have e2 := i2.f0 1
  have f3 := i3.f0 0; have e3 := i3.f0 1
  have f4 := i4.f0 0; have e4 := i4.f0 1
  have f5 := i5.f0 0; have e5 := i5.f0 1
  (refine o_store (w1 := ?_) rfl rfl (by rfl) ?_ ?_; rotate_left; (focus (go_simp; rfl)))
  (refine o_store (w1 := ?_) rfl rfl (by rfl) ?_ ?_; rotate_left; (focus (go_simp; rfl)))
  refine o_close (S' := (fun w' => Below w.heap.size w w' ∧ IB w' (w.heap.size) (p) (q) ∧ IB w' (w.heap.size + 1) (r) (s) ∧ IB w' (w.heap.size + 2) (0) (0) ∧ IB w' (w.heap.size + 3) (0) (0) ∧ IB w' (g) ((made p (mnI q (s - 1))).1) ((made p (mnI q (s - 1))).2) ∧ IB w' (g + 1) ((made (mxI r (p + 1)) s).1) ((made (mxI r (p + 1)) s).2))) ⟨below_set (below_set (below_set (below_set hB (by omega) _) (by omega) _) (by omega) _) (by omega) _, (IB.far (IB.far (IB.far (IB.far i0 (by omega) _) (by omega) _) (by omega) _) (by omega) _), (IB.far (IB.far (IB.far (IB.far i1 (by omega) _) (by omega) _) (by omega) _) (by omega) _), (IB.far (IB.far (IB.far (IB.far i2 (by omega) _) (by omega) _) (by omega) _) (by omega) _), (IB.far (IB.far (IB.far (IB.far i3 (by omega) _) (by omega) _) (by omega) _) (by omega) _), (IB.far (IB.far ((i4.set0 ((made p (mnI q (s - 1))).1)).set1 ((made p (mnI q (s - 1))).2)) (by omega) _) (by omega) _), ((((IB.far (IB.far i5 (by omega) _) (by omega) _)).set0 ((made (mxI r (p + 1)) s).1)).set1 ((made (mxI r (p + 1)) s).2))⟩ (fun w2 hS => ?_)
  clear hB i0 c0 d0 f0 e0 i1 c1 d1 f1 e1 i2 c2 d2 f2 e2 i3 c3 d3 f3 e3 i4 c4 d4 f4 e4 i5 c5 d5 f5 e5
  obtain ⟨hB, i0, i1, i2, i3, i4, i5⟩ := hS
  have c0 := i0.c0; have d0 := i0.c1; have c1 := i1.c0; have d1 := i1.c1; have c2 := i2.c0; have d2 := i2.c1; have c3 := i3.c0; have d3 := i3.c1; have c4 := i4.c0; have d4 := i4.c1; have c5 := i5.c0; have d5 := i5.c1; 
  have f0 := i0.f0 0; have e0 := i0.f0 1
  have f1 := i1.f0 0; have e1 := i1.f0 1
  have f2 := i2.f0 0; have e2 := i2.f0 1
  have f3 := i3.f0 0; have e3 := i3.f0 1
  have f4 := i4.f0 0; have e4 := i4.f0 1
  have f5 := i5.f0 0; have e5 := i5.f0 1
  cases x1 : emptyB ((made p (mnI q (s - 1))).1) ((made p (mnI q (s - 1))).2)
  · cases x2 : emptyB ((made (mxI r (p + 1)) s).1) ((made (mxI r (p + 1)) s).2)
    · have hf : (finF (made p (mnI q (s - 1))) (made (mxI r (p + 1)) s)) = (((made p (mnI q (s - 1))).1, (made p (mnI q (s - 1))).2), ((made (mxI r (p + 1)) s).1, (made (mxI r (p + 1)) s).2)) := fin_1 x1 x2
      go_wp2_with (first | (go_at_call 34; refine (empty_any _ _ _).mono ?_; rintro e w3 ⟨rfl, hb⟩; replace hB := below_call hB hb; replace i0 := IB.below i0 hb; have c0 := i0.c0; have d0 := i0.c1; have f0 := i0.f0 0; have e0 := i0.f0 1; replace i1 := IB.below i1 hb; have c1 := i1.c0; have d1 := i1.c1; have f1 := i1.f0 0; have e1 := i1.f0 1; replace i2 := IB.below i2 hb; have c2 := i2.c0; have d2 := i2.c1; have f2 := i2.f0 0; have e2 := i2.f0 1; replace i3 := IB.below i3 hb; have c3 := i3.c0; have d3 := i3.c1; have f3 := i3.f0 0; have e3 := i3.f0 1; replace i4 := IB.below i4 hb; have c4 := i4.c0; have d4 := i4.c1; have f4 := i4.f0 0; have e4 := i4.f0 1; replace i5 := IB.below i5 hb; have c5 := i5.c0; have d5 := i5.c1; have f5 := i5.f0 0; have e5 := i5.f0 1; clear hb; have l0 := i0.lt; have l1 := i1.lt; have l2 := i2.lt; have l3 := i3.lt; have l4 := i4.lt; have l5 := i5.lt) | (go_at_call 12; refine (none_any _).mono ?_; rintro e w3 ⟨rfl, hb⟩; replace hB := below_call hB hb; replace i0 := IB.below i0 hb; have c0 := i0.c0; have d0 := i0.c1; have f0 := i0.f0 0; have e0 := i0.f0 1; replace i1 := IB.below i1 hb; have c1 := i1.c0; have d1 := i1.c1; have f1 := i1.f0 0; have e1 := i1.f0 1; replace i2 := IB.below i2 hb; have c2 := i2.c0; have d2 := i2.c1; have f2 := i2.f0 0; have e2 := i2.f0 1; replace i3 := IB.below i3 hb; have c3 := i3.c0; have d3 := i3.c1; have f3 := i3.f0 0; have e3 := i3.f0 1; replace i4 := IB.below i4 hb; have c4 := i4.c0; have d4 := i4.c1; have f4 := i4.f0 0; have e4 := i4.f0 1; replace i5 := IB.below i5 hb; have c5 := i5.c0; have d5 := i5.c1; have f5 := i5.f0 0; have e5 := i5.f0 1; clear hb; have l0 := i0.lt; have l1 := i1.lt; have l2 := i2.lt; have l3 := i3.lt; have l4 := i4.lt; have l5 := i5.lt))
      have iA := i4; have iB := i5; have iC := i2; have iD := i3
      clear i0 i1 i2 i3 i4 i5 c0 c1 c2 c3 c4 c5 d0 d1 d2 d3 d4 d5 f0 f1 f2 f3 f4 f5 e0 e1 e2 e3 e4 e5 l0 l1 l2 l3 l4 l5
      have i0 := iA; have i1 := iB; have i2 := iC; have i3 := iD; clear iA iB iC iD
      have c0 := i0.c0; have d0 := i0.c1; have f0 := i0.f0 0; have e0 := i0.f0 1; have c1 := i1.c0; have d1 := i1.c1; have f1 := i1.f0 0; have e1 := i1.f0 1; have c2 := i2.c0; have d2 := i2.c1; have f2 := i2.f0 0; have e2 := i2.f0 1; have c3 := i3.c0; have d3 := i3.c1; have f3 := i3.f0 0; have e3 := i3.f0 1
      refine o_start (S := (fun w' => Below w.heap.size w w' ∧ IB w' (g) ((made p (mnI q (s - 1))).1) ((made p (mnI q (s - 1))).2) ∧ IB w' (g + 1) ((made (mxI r (p + 1)) s).1) ((made (mxI r (p + 1)) s).2) ∧ EB w' (w.heap.size + 2) ∧ EB w' (w.heap.size + 3))) (ds := []) (.cons 0 1 (.cons 1 1 (.cons 2 2 (.cons 3 2 .nil)))) (by kernel_rfl) (by kernel_rfl) (fun _ _ d _ _ h => by cases d <;> exact h) ⟨hB.drew, i0.drew, i1.drew, ⟨_, _, i2.drew⟩, ⟨_, _, i3.drew⟩⟩ (fun w1 hS => ?_)
      clear hB i0 c0 d0 f0 e0 i1 c1 d1 f1 e1 i2 c2 d2 f2 e2 i3 c3 d3 f3 e3
      repeat' (first
        | (refine o_load (v := ?_) (a' := ?_) rfl rfl (by rfl) hS ?_ ?_ ?_; rotate_left 2; (focus (rintro w' ⟨_, i0, i1, _⟩; have c0 := i0.c0; have d0 := i0.c1; have c1 := i1.c0; have d1 := i1.c1; go_simp; with_reducible rfl)); (focus (simp only [Act.put, List.setIfInBounds_toArray, List.set_cons_zero, List.set_cons_succ, i64_w, i32_w]; rfl))))
      obtain ⟨hB, i0, i1, ⟨x2, y2, i2⟩, ⟨x3, y3, i3⟩⟩ := hS
      have c0 := i0.c0; have d0 := i0.c1; have c1 := i1.c0; have d1 := i1.c1; have c2 := i2.c0; have d2 := i2.c1; have c3 := i3.c0; have d3 := i3.c1; 
      have f0 := i0.f0 0; have e0 := i0.f0 1
      have f1 := i1.f0 0; have e1 := i1.f0 1
      have f2 := i2.f0 0; have e2 := i2.f0 1
      have f3 := i3.f0 0; have e3 := i3.f0 1
      refine o_one rfl ?_
      refine s_store (w1 := ?_) rfl (by rfl) ?_ ?_ ?_
      rotate_left
      · go_simp
        rfl
      · exact ⟨below_set (below_set hB (by omega) _) (by omega) _, (IB.far (g' := w.heap.size + 2) (o := 1) (IB.far (g' := w.heap.size + 2) (o := 0) i0 (by omega) (.int .i64 ((made p (mnI q (s - 1))).1))) (by omega) (.int .i64 ((made p (mnI q (s - 1))).2))), (IB.far (g' := w.heap.size + 2) (o := 1) (IB.far (g' := w.heap.size + 2) (o := 0) i1 (by omega) (.int .i64 ((made p (mnI q (s - 1))).1))) (by omega) (.int .i64 ((made p (mnI q (s - 1))).2))), ⟨_, _, (i2.set0 ((made p (mnI q (s - 1))).1)).set1 ((made p (mnI q (s - 1))).2)⟩, ⟨_, _, (IB.far (g' := w.heap.size + 2) (o := 1) (IB.far (g' := w.heap.size + 2) (o := 0) i3 (by omega) (.int .i64 ((made p (mnI q (s - 1))).1))) (by omega) (.int .i64 ((made p (mnI q (s - 1))).2)))⟩⟩
      intro _
      refine o_one rfl ?_
      refine s_store (w1 := ?_) rfl (by rfl) ?_ ?_ ?_
      rotate_left
      · go_simp
        rfl
      · exact ⟨below_set (below_set (below_set (below_set hB (by omega) _) (by omega) _) (by omega) _) (by omega) _, (IB.far (g' := w.heap.size + 3) (o := 1) (IB.far (g' := w.heap.size + 3) (o := 0) (IB.far (g' := w.heap.size + 2) (o := 1) (IB.far (g' := w.heap.size + 2) (o := 0) i0 (by omega) (.int .i64 ((made p (mnI q (s - 1))).1))) (by omega) (.int .i64 ((made p (mnI q (s - 1))).2))) (by omega) (.int .i64 ((made (mxI r (p + 1)) s).1))) (by omega) (.int .i64 ((made (mxI r (p + 1)) s).2))), (IB.far (g' := w.heap.size + 3) (o := 1) (IB.far (g' := w.heap.size + 3) (o := 0) (IB.far (g' := w.heap.size + 2) (o := 1) (IB.far (g' := w.heap.size + 2) (o := 0) i1 (by omega) (.int .i64 ((made p (mnI q (s - 1))).1))) (by omega) (.int .i64 ((made p (mnI q (s - 1))).2))) (by omega) (.int .i64 ((made (mxI r (p + 1)) s).1))) (by omega) (.int .i64 ((made (mxI r (p + 1)) s).2))), ⟨_, _, (IB.far (g' := w.heap.size + 3) (o := 1) (IB.far (g' := w.heap.size + 3) (o := 0) ((i2.set0 ((made p (mnI q (s - 1))).1)).set1 ((made p (mnI q (s - 1))).2)) (by omega) (.int .i64 ((made (mxI r (p + 1)) s).1))) (by omega) (.int .i64 ((made (mxI r (p + 1)) s).2)))⟩, ⟨_, _, ((IB.far (g' := w.heap.size + 2) (o := 1) (IB.far (g' := w.heap.size + 2) (o := 0) i3 (by omega) (.int .i64 ((made p (mnI q (s - 1))).1))) (by omega) (.int .i64 ((made p (mnI q (s - 1))).2))).set0 ((made (mxI r (p + 1)) s).1)).set1 ((made (mxI r (p + 1)) s).2)⟩⟩
      intro _
      refine o_done ?_
      go_wp2
      refine bodyPost_ret (v := .tuple #[.agg #[.int .i64 ((made p (mnI q (s - 1))).1), .int .i64 ((made p (mnI q (s - 1))).2)], .agg #[.int .i64 ((made (mxI r (p + 1)) s).1), .int .i64 ((made (mxI r (p + 1)) s).2)]]) ?_ rfl ⟨by rw [hf], ?_⟩
      · have k0 := ((IB.far (g' := w.heap.size + 3) (o := 1) (IB.far (g' := w.heap.size + 3) (o := 0) ((i2.set0 ((made p (mnI q (s - 1))).1)).set1 ((made p (mnI q (s - 1))).2)) (by omega) (.int .i64 ((made (mxI r (p + 1)) s).1))) (by omega) (.int .i64 ((made (mxI r (p + 1)) s).2)))).c0
        have k1 := ((IB.far (g' := w.heap.size + 3) (o := 1) (IB.far (g' := w.heap.size + 3) (o := 0) ((i2.set0 ((made p (mnI q (s - 1))).1)).set1 ((made p (mnI q (s - 1))).2)) (by omega) (.int .i64 ((made (mxI r (p + 1)) s).1))) (by omega) (.int .i64 ((made (mxI r (p + 1)) s).2)))).c1
        have k2 := ((((IB.far (g' := w.heap.size + 2) (o := 1) (IB.far (g' := w.heap.size + 2) (o := 0) i3 (by omega) (.int .i64 ((made p (mnI q (s - 1))).1))) (by omega) (.int .i64 ((made p (mnI q (s - 1))).2))).set0 ((made (mxI r (p + 1)) s).1)).set1 ((made (mxI r (p + 1)) s).2))).c0
        have k3 := ((((IB.far (g' := w.heap.size + 2) (o := 1) (IB.far (g' := w.heap.size + 2) (o := 0) i3 (by omega) (.int .i64 ((made p (mnI q (s - 1))).1))) (by omega) (.int .i64 ((made p (mnI q (s - 1))).2))).set0 ((made (mxI r (p + 1)) s).1)).set1 ((made (mxI r (p + 1)) s).2))).c1
        simp [results, Try.results22, go_sem, k0, k1, k2, k3]
      · exact below_set (below_set (below_set (below_set hB (by omega) _) (by omega) _) (by omega) _) (by omega) _
    · have hf : (finF (made p (mnI q (s - 1))) (made (mxI r (p + 1)) s)) = ((1, 0), (1, 0)) := fin_2 x1 x2
      go_wp2_with (first | (go_at_call 34; refine (empty_any _ _ _).mono ?_; rintro e w3 ⟨rfl, hb⟩; replace hB := below_call hB hb; replace i0 := IB.below i0 hb; have c0 := i0.c0; have d0 := i0.c1; have f0 := i0.f0 0; have e0 := i0.f0 1; replace i1 := IB.below i1 hb; have c1 := i1.c0; have d1 := i1.c1; have f1 := i1.f0 0; have e1 := i1.f0 1; replace i2 := IB.below i2 hb; have c2 := i2.c0; have d2 := i2.c1; have f2 := i2.f0 0; have e2 := i2.f0 1; replace i3 := IB.below i3 hb; have c3 := i3.c0; have d3 := i3.c1; have f3 := i3.f0 0; have e3 := i3.f0 1; replace i4 := IB.below i4 hb; have c4 := i4.c0; have d4 := i4.c1; have f4 := i4.f0 0; have e4 := i4.f0 1; replace i5 := IB.below i5 hb; have c5 := i5.c0; have d5 := i5.c1; have f5 := i5.f0 0; have e5 := i5.f0 1; clear hb; have l0 := i0.lt; have l1 := i1.lt; have l2 := i2.lt; have l3 := i3.lt; have l4 := i4.lt; have l5 := i5.lt) | (go_at_call 12; refine (none_any _).mono ?_; rintro e w3 ⟨rfl, hb⟩; replace hB := below_call hB hb; replace i0 := IB.below i0 hb; have c0 := i0.c0; have d0 := i0.c1; have f0 := i0.f0 0; have e0 := i0.f0 1; replace i1 := IB.below i1 hb; have c1 := i1.c0; have d1 := i1.c1; have f1 := i1.f0 0; have e1 := i1.f0 1; replace i2 := IB.below i2 hb; have c2 := i2.c0; have d2 := i2.c1; have f2 := i2.f0 0; have e2 := i2.f0 1; replace i3 := IB.below i3 hb; have c3 := i3.c0; have d3 := i3.c1; have f3 := i3.f0 0; have e3 := i3.f0 1; replace i4 := IB.below i4 hb; have c4 := i4.c0; have d4 := i4.c1; have f4 := i4.f0 0; have e4 := i4.f0 1; replace i5 := IB.below i5 hb; have c5 := i5.c0; have d5 := i5.c1; have f5 := i5.f0 0; have e5 := i5.f0 1; clear hb; have l0 := i0.lt; have l1 := i1.lt; have l2 := i2.lt; have l3 := i3.lt; have l4 := i4.lt; have l5 := i5.lt))
      refine bodyPost_ret (v := .tuple #[.agg #[.int .i64 (1), .int .i64 (0)], .agg #[.int .i64 (1), .int .i64 (0)]]) ?_ rfl ⟨by rw [hf], ?_⟩
      · have k0 := ((IB.far (g' := w.heap.size + 3) (o := 1) (IB.far (g' := w.heap.size + 3) (o := 0) ((i2.set0 (1)).set1 (0)) (by omega) (.int .i64 (1))) (by omega) (.int .i64 (0)))).c0
        have k1 := ((IB.far (g' := w.heap.size + 3) (o := 1) (IB.far (g' := w.heap.size + 3) (o := 0) ((i2.set0 (1)).set1 (0)) (by omega) (.int .i64 (1))) (by omega) (.int .i64 (0)))).c1
        have k2 := ((((IB.far (g' := w.heap.size + 2) (o := 1) (IB.far (g' := w.heap.size + 2) (o := 0) i3 (by omega) (.int .i64 (1))) (by omega) (.int .i64 (0))).set0 (1)).set1 (0))).c0
        have k3 := ((((IB.far (g' := w.heap.size + 2) (o := 1) (IB.far (g' := w.heap.size + 2) (o := 0) i3 (by omega) (.int .i64 (1))) (by omega) (.int .i64 (0))).set0 (1)).set1 (0))).c1
        simp [results, Try.results22, go_sem, k0, k1, k2, k3]
      · exact below_set (below_set (below_set (below_set hB (by omega) _) (by omega) _) (by omega) _) (by omega) _
  · have hf : (finF (made p (mnI q (s - 1))) (made (mxI r (p + 1)) s)) = ((1, 0), (1, 0)) := fin_3 x1
    go_wp2_with (first | (go_at_call 34; refine (empty_any _ _ _).mono ?_; rintro e w3 ⟨rfl, hb⟩; replace hB := below_call hB hb; replace i0 := IB.below i0 hb; have c0 := i0.c0; have d0 := i0.c1; have f0 := i0.f0 0; have e0 := i0.f0 1; replace i1 := IB.below i1 hb; have c1 := i1.c0; have d1 := i1.c1; have f1 := i1.f0 0; have e1 := i1.f0 1; replace i2 := IB.below i2 hb; have c2 := i2.c0; have d2 := i2.c1; have f2 := i2.f0 0; have e2 := i2.f0 1; replace i3 := IB.below i3 hb; have c3 := i3.c0; have d3 := i3.c1; have f3 := i3.f0 0; have e3 := i3.f0 1; replace i4 := IB.below i4 hb; have c4 := i4.c0; have d4 := i4.c1; have f4 := i4.f0 0; have e4 := i4.f0 1; replace i5 := IB.below i5 hb; have c5 := i5.c0; have d5 := i5.c1; have f5 := i5.f0 0; have e5 := i5.f0 1; clear hb; have l0 := i0.lt; have l1 := i1.lt; have l2 := i2.lt; have l3 := i3.lt; have l4 := i4.lt; have l5 := i5.lt) | (go_at_call 12; refine (none_any _).mono ?_; rintro e w3 ⟨rfl, hb⟩; replace hB := below_call hB hb; replace i0 := IB.below i0 hb; have c0 := i0.c0; have d0 := i0.c1; have f0 := i0.f0 0; have e0 := i0.f0 1; replace i1 := IB.below i1 hb; have c1 := i1.c0; have d1 := i1.c1; have f1 := i1.f0 0; have e1 := i1.f0 1; replace i2 := IB.below i2 hb; have c2 := i2.c0; have d2 := i2.c1; have f2 := i2.f0 0; have e2 := i2.f0 1; replace i3 := IB.below i3 hb; have c3 := i3.c0; have d3 := i3.c1; have f3 := i3.f0 0; have e3 := i3.f0 1; replace i4 := IB.below i4 hb; have c4 := i4.c0; have d4 := i4.c1; have f4 := i4.f0 0; have e4 := i4.f0 1; replace i5 := IB.below i5 hb; have c5 := i5.c0; have d5 := i5.c1; have f5 := i5.f0 0; have e5 := i5.f0 1; clear hb; have l0 := i0.lt; have l1 := i1.lt; have l2 := i2.lt; have l3 := i3.lt; have l4 := i4.lt; have l5 := i5.lt))
    refine bodyPost_ret (v := .tuple #[.agg #[.int .i64 (1), .int .i64 (0)], .agg #[.int .i64 (1), .int .i64 (0)]]) ?_ rfl ⟨by rw [hf], ?_⟩
    · have k0 := ((IB.far (g' := w.heap.size + 3) (o := 1) (IB.far (g' := w.heap.size + 3) (o := 0) ((i2.set0 (1)).set1 (0)) (by omega) (.int .i64 (1))) (by omega) (.int .i64 (0)))).c0
      have k1 := ((IB.far (g' := w.heap.size + 3) (o := 1) (IB.far (g' := w.heap.size + 3) (o := 0) ((i2.set0 (1)).set1 (0)) (by omega) (.int .i64 (1))) (by omega) (.int .i64 (0)))).c1
      have k2 := ((((IB.far (g' := w.heap.size + 2) (o := 1) (IB.far (g' := w.heap.size + 2) (o := 0) i3 (by omega) (.int .i64 (1))) (by omega) (.int .i64 (0))).set0 (1)).set1 (0))).c0
      have k3 := ((((IB.far (g' := w.heap.size + 2) (o := 1) (IB.far (g' := w.heap.size + 2) (o := 0) i3 (by omega) (.int .i64 (1))) (by omega) (.int .i64 (0))).set0 (1)).set1 (0))).c1
      simp [results, Try.results22, go_sem, k0, k1, k2, k3]
    · exact below_set (below_set (below_set (below_set hB (by omega) _) (by omega) _) (by omega) _) (by omega) _
theorem awL22 (w : World) : Calls Try.prog 22 #[.int .i64 11, .bool true, .agg #[.int .i64 0, .int .i64 9], .agg #[.int .i64 0, .int .i64 5]] w fun e w' => e = .returned (.tuple #[.agg #[.int .i64 0, .int .i64 4], .agg #[.int .i64 1, .int .i64 5]]) ∧ Below w.heap.size w w' :=
  rfL_11t 0 9 0 5 0 9 0 5 w (by decide) (by decide) (by decide) (by decide) (by decide) (by decide) (by decide) (by decide) (by decide) (by decide) (by decide) (by decide)
theorem awL16 (w : World) : Calls Try.prog 16 #[.int .i64 1, .agg #[.int .i64 1, .int .i64 2], .agg #[.int .i64 10, .int .i64 20]] w fun e w' => e = .returned (.agg #[.int .i64 11, .int .i64 22]) ∧ Below w.heap.size w w' :=
  doL_1 1 2 10 20 1 2 10 20 w (by decide) (by decide) (by decide) (by decide) (by decide) (by decide) (by decide) (by decide) (by decide) (by decide) (by decide) (by decide)
theorem awakeL_any (w : World) : Calls Try.prog 14 #[] w fun e w' => e = .returned (.bool true) ∧ Below w.heap.size w w' := by
  have k0 : eqI 11 22 11 22 = true := rfl
  have k1 : eqI 0 4 0 4 = true := rfl
  have k2 : eqI 1 5 1 5 = true := rfl
  go_enter Try.func14, Try.ntmps14
  go_wp2_with (first | (go_at_call 22; refine (awL22 _).mono ?_; rintro e w3 ⟨rfl, hb⟩; have hB := hb; clear hb) | (go_at_call 16; refine (awL16 _).mono ?_; rintro e w4 ⟨rfl, hb⟩; have hB2 := below_call ((hB.alloc hB.size (.cells #[.int .i64 0, .int .i64 4] 23)).alloc (by have := hB.size; simp; omega) (.cells #[.int .i64 1, .int .i64 5] 23)) hb; have i0 : IB w4 w3.heap.size 0 4 := ((IB.new w3 0 4).alloc (.cells #[.int .i64 1, .int .i64 5] 23)).below hb; have i1 : IB w4 (w3.heap.size + 1) 1 5 := (IB.at (by simp) 1 5).below hb; have c0 := i0.c0; have d0 := i0.c1; have f0 := i0.f0 0; have e0 := i0.f0 1; have l0 := i0.lt; have c1 := i1.c0; have d1 := i1.c1; have f1 := i1.f0 0; have e1 := i1.f0 1; have l1 := i1.lt; clear hb))
  go_ret
  exact ⟨rfl, hB2⟩
end Go.Proofs.Ytdooadomkifbbaa
