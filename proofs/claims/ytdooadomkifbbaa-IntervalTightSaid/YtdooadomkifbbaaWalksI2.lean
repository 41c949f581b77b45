/-
  The walks of interval.Do, operator by operator, part 2. Conditions: words, as Fix gives them.
-/
import Derived.Test.YtdooadomkifbbaaWalksG
namespace Go.Proofs.Ytdooadomkifbbaa
open Go.RowKit
open Go.Proofs.YtdooadomkifbbaaW.PrintLast
attribute [local go_sem high] eqA23
attribute [local go_sem] max2_i min2_i max_2 min_2 max_4 min_4
set_option maxHeartbeats 2000000
set_option maxRecDepth 100000
set_option linter.unusedSimpArgs false
set_option linter.unusedVariables false
theorem do_6 (a b c d p q r s : Int) (w : World) (hpq : fixP a b = (p, q)) (hrs : fixP c d = (r, s)) (h1 : emptyB p q = false) (h2 : emptyB r s = false) (b0 : -2147483648 ≤ p) (b1 : p ≤ 2147483647) (b2 : -2147483648 ≤ q) (b3 : q ≤ 2147483647) (b4 : -2147483648 ≤ r) (b5 : r ≤ 2147483647) (b6 : -2147483648 ≤ s) (b7 : s ≤ 2147483647) (h3 : p ≤ q) (h4 : r ≤ s) :
    Calls Try.prog 16 #[.int .i64 6, .agg #[.int .i64 a, .int .i64 b], .agg #[.int .i64 c, .int .i64 d]] w fun e w' => e = .returned (.agg #[.int .i64 (bitF 6 p q r s).1, .int .i64 (bitF 6 p q r s).2]) ∧ Below w.heap.size w w' := by
  have Hpq := Lib.hid hpq; have Hrs := Lib.hid hrs; clear hpq hrs
  go_enter Try.func16, Try.ntmps16
  go_wp2_with fail
  refine o_start (S := (fun w' => Below w.heap.size w w' ∧ IB w' (w.heap.size) (a) (b) ∧ IB w' (w.heap.size + 1) (c) (d) ∧ IB w' (w.heap.size + 2) (0) (0))) (ds := [4, 5]) (.cons 0 1 (.cons 2 1 (.cons 1 2 (.cons 3 2 (.cons 4 3 (.cons 5 3 .nil)))))) (by kernel_rfl) (by kernel_rfl) (fun _ _ d _ _ h => by cases d <;> exact h) ⟨((((Below.refl _ _).alloc (Nat.le_refl _) _).alloc (by simp) _).alloc (by simp; omega) _).drew, (((IB.new w a b).alloc _).alloc _).drew, ((IB.at (by simp) c d).alloc _).drew, (IB.at (by simp) 0 0).drew⟩ (fun w1 hS => ?_)
  repeat' (first
    | (refine o_off (a' := ?_) rfl rfl (by rfl) ?_ ?_; rotate_left; (focus (simp only [Act.put, List.setIfInBounds_toArray, List.set_cons_zero, List.set_cons_succ, i64_w, i32_w]; rfl)))
    | (refine o_pure (v := ?_) (a' := ?_) rfl rfl (by rfl) ?_ ?_ ?_; rotate_left 2; (focus (intro w'; go_simp; with_reducible rfl)); (focus (simp only [Act.put, List.setIfInBounds_toArray, List.set_cons_zero, List.set_cons_succ, i64_w, i32_w]; rfl)))
    | (refine o_loadoff (a' := ?_) rfl rfl (by rfl) hS ?_ ?_; rotate_left; (focus (simp only [Act.put, List.setIfInBounds_toArray, List.set_cons_zero, List.set_cons_succ, i64_w, i32_w]; rfl)))
    | (refine o_load (v := ?_) (a' := ?_) rfl rfl (by rfl) hS ?_ ?_ ?_; rotate_left 2; (focus (rintro w' ⟨_, i0, i1, i2⟩; have c0 := i0.c0; have d0 := i0.c1; have c1 := i1.c0; have d1 := i1.c1; have c2 := i2.c0; have d2 := i2.c1; go_simp; with_reducible rfl)); (focus (simp only [Act.put, List.setIfInBounds_toArray, List.set_cons_zero, List.set_cons_succ, i64_w, i32_w]; rfl)))
    | (refine o_one rfl ?_)
    | (refine o_fork2 rfl rfl ?_ ?_)
    | (refine s_off (a' := ?_) rfl (by rfl) hS ?_ ?_; rotate_left; (focus (simp only [Act.put, List.setIfInBounds_toArray, List.set_cons_zero, List.set_cons_succ, i64_w, i32_w]; rfl)))
    | (refine s_call (f := 33) (a' := ?_) rfl (by rfl) rfl Try.func33 (by kernel_rfl) rfl (fix_as Hpq.out _) (by (try simp only [List.map_toArray, List.map_cons, List.map_nil]); first | done | rfl) (fun w' hb => ⟨below_call hS.1 hb, IB.below hS.2.1 hb, IB.below hS.2.2.1 hb, IB.below hS.2.2.2 hb⟩) ?_ ?_; rotate_left; (focus (simp only [Act.put, List.setIfInBounds_toArray, List.set_cons_zero, List.set_cons_succ, i64_w, i32_w]; rfl)); clear hS; intro w1 hb hS; clear hb)
    | (refine s_call (f := 33) (a' := ?_) rfl (by rfl) rfl Try.func33 (by kernel_rfl) rfl (fix_as Hrs.out _) (by (try simp only [List.map_toArray, List.map_cons, List.map_nil]); first | done | rfl) (fun w' hb => ⟨below_call hS.1 hb, IB.below hS.2.1 hb, IB.below hS.2.2.1 hb, IB.below hS.2.2.2 hb⟩) ?_ ?_; rotate_left; (focus (simp only [Act.put, List.setIfInBounds_toArray, List.set_cons_zero, List.set_cons_succ, i64_w, i32_w]; rfl)); clear hS; intro w1 hb hS; clear hb))
  obtain ⟨hB, i0, i1, i2⟩ := hS
  have c0 := i0.c0; have d0 := i0.c1; have c1 := i1.c0; have d1 := i1.c1; have c2 := i2.c0; have d2 := i2.c1; 
  have f0 := i0.f0 0; have e0 := i0.f0 1
  have f1 := i1.f0 0; have e1 := i1.f0 1
  have f2 := i2.f0 0; have e2 := i2.f0 1
  (refine o_store (w1 := ?_) rfl rfl (by rfl) ?_ ?_; rotate_left; (focus (go_simp; rfl)))
  (refine o_store (w1 := ?_) rfl rfl (by rfl) ?_ ?_; rotate_left; (focus (go_simp; rfl)))
  refine o_close (S' := (fun w' => Below w.heap.size w w' ∧ IB w' (w.heap.size) (p) (q) ∧ IB w' (w.heap.size + 1) (r) (s) ∧ IB w' (w.heap.size + 2) (0) (0))) ⟨below_set (below_set (below_set (below_set hB (by omega) _) (by omega) _) (by omega) _) (by omega) _, ((((i0.set0 p).set1 q).far (by omega) _).far (by omega) _), (((((i1.far (by omega) _).far (by omega) _).set0 r)).set1 s), ((((i2.far (by omega) _).far (by omega) _).far (by omega) _).far (by omega) _)⟩ (fun w2 hS => ?_)
  clear i0 c0 d0 f0 e0 i1 c1 d1 f1 e1 i2 c2 d2 f2 e2 hB
  obtain ⟨hB, i0, i1, i2⟩ := hS
  have c0 := i0.c0; have d0 := i0.c1; have c1 := i1.c0; have d1 := i1.c1; have c2 := i2.c0; have d2 := i2.c1; 
  have f0 := i0.f0 0; have e0 := i0.f0 1
  have f1 := i1.f0 0; have e1 := i1.f0 1
  have f2 := i2.f0 0; have e2 := i2.f0 1
  go_wp2_with (go_at_call 34; refine (empty_any _ _ _).mono ?_; rintro e w3 ⟨rfl, hb⟩; replace hB := below_call hB hb; replace i0 := IB.below i0 hb; have c0 := i0.c0; have d0 := i0.c1; have f0 := i0.f0 0; have e0 := i0.f0 1; replace i1 := IB.below i1 hb; have c1 := i1.c0; have d1 := i1.c1; have f1 := i1.f0 0; have e1 := i1.f0 1; replace i2 := IB.below i2 hb; have c2 := i2.c0; have d2 := i2.c1; have f2 := i2.f0 0; have e2 := i2.f0 1; clear hb)
  refine o_start (S := (fun w' => Below w.heap.size w w' ∧ IB w' (w.heap.size) (p) (q) ∧ IB w' (w.heap.size + 1) (r) (s) ∧ IB w' (w.heap.size + 2) (0) (0))) (ds := []) (.cons 0 0 (.cons 1 1 (.cons 2 0 (.cons 3 1 (.cons 4 0 (.cons 5 1 (.cons 6 0 (.cons 7 1 (.cons 8 0 (.cons 9 0 (.cons 10 0 (.cons 11 0 .nil)))))))))))) (by kernel_rfl) (by kernel_rfl) (fun _ _ d _ _ h => by cases d <;> exact h) ⟨hB.drew, i0.drew, i1.drew, i2.drew⟩ (fun w1 hS => ?_)
  clear hB i0 c0 d0 f0 e0 i1 c1 d1 f1 e1 i2 c2 d2 f2 e2
  repeat' (first
    | (refine o_off (a' := ?_) rfl rfl (by rfl) ?_ ?_; rotate_left; (focus (simp only [Act.put, List.setIfInBounds_toArray, List.set_cons_zero, List.set_cons_succ, i64_w, i32_w]; rfl)))
    | (refine o_pure (v := ?_) (a' := ?_) rfl rfl (by rfl) ?_ ?_ ?_; rotate_left 2; (focus (intro w'; go_simp; with_reducible rfl)); (focus (simp only [Act.put, List.setIfInBounds_toArray, List.set_cons_zero, List.set_cons_succ, i64_w, i32_w]; rfl)))
    | (refine o_loadoff (a' := ?_) rfl rfl (by rfl) hS ?_ ?_; rotate_left; (focus (simp only [Act.put, List.setIfInBounds_toArray, List.set_cons_zero, List.set_cons_succ, i64_w, i32_w]; rfl)))
    | (refine o_load (v := ?_) (a' := ?_) rfl rfl (by rfl) hS ?_ ?_ ?_; rotate_left 2; (focus (rintro w' ⟨_, i0, i1, i2⟩; have c0 := i0.c0; have d0 := i0.c1; have c1 := i1.c0; have d1 := i1.c1; have c2 := i2.c0; have d2 := i2.c1; go_simp; with_reducible rfl)); (focus (simp only [Act.put, List.setIfInBounds_toArray, List.set_cons_zero, List.set_cons_succ, i64_w, i32_w]; rfl)))
    | (refine o_one rfl ?_)
    | (refine o_fork2 rfl rfl ?_ ?_)
    | (refine s_off (a' := ?_) rfl (by rfl) hS ?_ ?_; rotate_left; (focus (simp only [Act.put, List.setIfInBounds_toArray, List.set_cons_zero, List.set_cons_succ, i64_w, i32_w]; rfl))))
  refine o_done ?_
  obtain ⟨hB, i0, i1, i2⟩ := hS
  have c0 := i0.c0; have d0 := i0.c1; have c1 := i1.c0; have d1 := i1.c1; have c2 := i2.c0; have d2 := i2.c1; 
  have f0 := i0.f0 0; have e0 := i0.f0 1
  have f1 := i1.f0 0; have e1 := i1.f0 1
  have f2 := i2.f0 0; have e2 := i2.f0 1
  go_wp2_with (go_at_call 37; refine (bit_any _ _ _ _ _ _ (by decide) (by assumption) (by assumption) (by assumption) (by assumption)).mono ?_; rintro e w3 ⟨rfl, hb⟩; replace hB := below_call hB hb; replace i0 := IB.below i0 hb; have c0 := i0.c0; have d0 := i0.c1; have f0 := i0.f0 0; have e0 := i0.f0 1; replace i1 := IB.below i1 hb; have c1 := i1.c0; have d1 := i1.c1; have f1 := i1.f0 0; have e1 := i1.f0 1; replace i2 := IB.below i2 hb; have c2 := i2.c0; have d2 := i2.c1; have f2 := i2.f0 0; have e2 := i2.f0 1; clear hb)
  refine bodyPost_ret (v := .agg #[.int .i64 ((bitF 6 p q r s).1), .int .i64 ((bitF 6 p q r s).2)]) ?_ rfl ⟨rfl, ?_⟩
  · have k0 := ((i2.set0 ((bitF 6 p q r s).1)).set1 ((bitF 6 p q r s).2)).c0
    have k1 := ((i2.set0 ((bitF 6 p q r s).1)).set1 ((bitF 6 p q r s).2)).c1
    simp [results, Try.results16, go_sem, k0, k1]
  · exact below_set (below_set hB (by omega) _) (by omega) _
theorem do_7 (a b c d p q r s : Int) (w : World) (hpq : fixP a b = (p, q)) (hrs : fixP c d = (r, s)) (h1 : emptyB p q = false) (h2 : emptyB r s = false) (b0 : -2147483648 ≤ p) (b1 : p ≤ 2147483647) (b2 : -2147483648 ≤ q) (b3 : q ≤ 2147483647) (b4 : -2147483648 ≤ r) (b5 : r ≤ 2147483647) (b6 : -2147483648 ≤ s) (b7 : s ≤ 2147483647) (h3 : p ≤ q) (h4 : r ≤ s) :
    Calls Try.prog 16 #[.int .i64 7, .agg #[.int .i64 a, .int .i64 b], .agg #[.int .i64 c, .int .i64 d]] w fun e w' => e = .returned (.agg #[.int .i64 (bitF 7 p q r s).1, .int .i64 (bitF 7 p q r s).2]) ∧ Below w.heap.size w w' := by
  have Hpq := Lib.hid hpq; have Hrs := Lib.hid hrs; clear hpq hrs
  go_enter Try.func16, Try.ntmps16
  go_wp2_with fail
  refine o_start (S := (fun w' => Below w.heap.size w w' ∧ IB w' (w.heap.size) (a) (b) ∧ IB w' (w.heap.size + 1) (c) (d) ∧ IB w' (w.heap.size + 2) (0) (0))) (ds := [4, 5]) (.cons 0 1 (.cons 2 1 (.cons 1 2 (.cons 3 2 (.cons 4 3 (.cons 5 3 .nil)))))) (by kernel_rfl) (by kernel_rfl) (fun _ _ d _ _ h => by cases d <;> exact h) ⟨((((Below.refl _ _).alloc (Nat.le_refl _) _).alloc (by simp) _).alloc (by simp; omega) _).drew, (((IB.new w a b).alloc _).alloc _).drew, ((IB.at (by simp) c d).alloc _).drew, (IB.at (by simp) 0 0).drew⟩ (fun w1 hS => ?_)
  repeat' (first
    | (refine o_off (a' := ?_) rfl rfl (by rfl) ?_ ?_; rotate_left; (focus (simp only [Act.put, List.setIfInBounds_toArray, List.set_cons_zero, List.set_cons_succ, i64_w, i32_w]; rfl)))
    | (refine o_pure (v := ?_) (a' := ?_) rfl rfl (by rfl) ?_ ?_ ?_; rotate_left 2; (focus (intro w'; go_simp; with_reducible rfl)); (focus (simp only [Act.put, List.setIfInBounds_toArray, List.set_cons_zero, List.set_cons_succ, i64_w, i32_w]; rfl)))
    | (refine o_loadoff (a' := ?_) rfl rfl (by rfl) hS ?_ ?_; rotate_left; (focus (simp only [Act.put, List.setIfInBounds_toArray, List.set_cons_zero, List.set_cons_succ, i64_w, i32_w]; rfl)))
    | (refine o_load (v := ?_) (a' := ?_) rfl rfl (by rfl) hS ?_ ?_ ?_; rotate_left 2; (focus (rintro w' ⟨_, i0, i1, i2⟩; have c0 := i0.c0; have d0 := i0.c1; have c1 := i1.c0; have d1 := i1.c1; have c2 := i2.c0; have d2 := i2.c1; go_simp; with_reducible rfl)); (focus (simp only [Act.put, List.setIfInBounds_toArray, List.set_cons_zero, List.set_cons_succ, i64_w, i32_w]; rfl)))
    | (refine o_one rfl ?_)
    | (refine o_fork2 rfl rfl ?_ ?_)
    | (refine s_off (a' := ?_) rfl (by rfl) hS ?_ ?_; rotate_left; (focus (simp only [Act.put, List.setIfInBounds_toArray, List.set_cons_zero, List.set_cons_succ, i64_w, i32_w]; rfl)))
    | (refine s_call (f := 33) (a' := ?_) rfl (by rfl) rfl Try.func33 (by kernel_rfl) rfl (fix_as Hpq.out _) (by (try simp only [List.map_toArray, List.map_cons, List.map_nil]); first | done | rfl) (fun w' hb => ⟨below_call hS.1 hb, IB.below hS.2.1 hb, IB.below hS.2.2.1 hb, IB.below hS.2.2.2 hb⟩) ?_ ?_; rotate_left; (focus (simp only [Act.put, List.setIfInBounds_toArray, List.set_cons_zero, List.set_cons_succ, i64_w, i32_w]; rfl)); clear hS; intro w1 hb hS; clear hb)
    | (refine s_call (f := 33) (a' := ?_) rfl (by rfl) rfl Try.func33 (by kernel_rfl) rfl (fix_as Hrs.out _) (by (try simp only [List.map_toArray, List.map_cons, List.map_nil]); first | done | rfl) (fun w' hb => ⟨below_call hS.1 hb, IB.below hS.2.1 hb, IB.below hS.2.2.1 hb, IB.below hS.2.2.2 hb⟩) ?_ ?_; rotate_left; (focus (simp only [Act.put, List.setIfInBounds_toArray, List.set_cons_zero, List.set_cons_succ, i64_w, i32_w]; rfl)); clear hS; intro w1 hb hS; clear hb))
  obtain ⟨hB, i0, i1, i2⟩ := hS
  have c0 := i0.c0; have d0 := i0.c1; have c1 := i1.c0; have d1 := i1.c1; have c2 := i2.c0; have d2 := i2.c1; 
  have f0 := i0.f0 0; have e0 := i0.f0 1
  have f1 := i1.f0 0; have e1 := i1.f0 1
  have f2 := i2.f0 0; have e2 := i2.f0 1
  (refine o_store (w1 := ?_) rfl rfl (by rfl) ?_ ?_; rotate_left; (focus (go_simp; rfl)))
  (refine o_store (w1 := ?_) rfl rfl (by rfl) ?_ ?_; rotate_left; (focus (go_simp; rfl)))
  refine o_close (S' := (fun w' => Below w.heap.size w w' ∧ IB w' (w.heap.size) (p) (q) ∧ IB w' (w.heap.size + 1) (r) (s) ∧ IB w' (w.heap.size + 2) (0) (0))) ⟨below_set (below_set (below_set (below_set hB (by omega) _) (by omega) _) (by omega) _) (by omega) _, ((((i0.set0 p).set1 q).far (by omega) _).far (by omega) _), (((((i1.far (by omega) _).far (by omega) _).set0 r)).set1 s), ((((i2.far (by omega) _).far (by omega) _).far (by omega) _).far (by omega) _)⟩ (fun w2 hS => ?_)
  clear i0 c0 d0 f0 e0 i1 c1 d1 f1 e1 i2 c2 d2 f2 e2 hB
  obtain ⟨hB, i0, i1, i2⟩ := hS
  have c0 := i0.c0; have d0 := i0.c1; have c1 := i1.c0; have d1 := i1.c1; have c2 := i2.c0; have d2 := i2.c1; 
  have f0 := i0.f0 0; have e0 := i0.f0 1
  have f1 := i1.f0 0; have e1 := i1.f0 1
  have f2 := i2.f0 0; have e2 := i2.f0 1
  go_wp2_with (go_at_call 34; refine (empty_any _ _ _).mono ?_; rintro e w3 ⟨rfl, hb⟩; replace hB := below_call hB hb; replace i0 := IB.below i0 hb; have c0 := i0.c0; have d0 := i0.c1; have f0 := i0.f0 0; have e0 := i0.f0 1; replace i1 := IB.below i1 hb; have c1 := i1.c0; have d1 := i1.c1; have f1 := i1.f0 0; have e1 := i1.f0 1; replace i2 := IB.below i2 hb; have c2 := i2.c0; have d2 := i2.c1; have f2 := i2.f0 0; have e2 := i2.f0 1; clear hb)
  refine o_start (S := (fun w' => Below w.heap.size w w' ∧ IB w' (w.heap.size) (p) (q) ∧ IB w' (w.heap.size + 1) (r) (s) ∧ IB w' (w.heap.size + 2) (0) (0))) (ds := []) (.cons 0 0 (.cons 1 1 (.cons 2 0 (.cons 3 1 (.cons 4 0 (.cons 5 1 (.cons 6 0 (.cons 7 1 (.cons 8 0 (.cons 9 0 (.cons 10 0 (.cons 11 0 .nil)))))))))))) (by kernel_rfl) (by kernel_rfl) (fun _ _ d _ _ h => by cases d <;> exact h) ⟨hB.drew, i0.drew, i1.drew, i2.drew⟩ (fun w1 hS => ?_)
  clear hB i0 c0 d0 f0 e0 i1 c1 d1 f1 e1 i2 c2 d2 f2 e2
  repeat' (first
    | (refine o_off (a' := ?_) rfl rfl (by rfl) ?_ ?_; rotate_left; (focus (simp only [Act.put, List.setIfInBounds_toArray, List.set_cons_zero, List.set_cons_succ, i64_w, i32_w]; rfl)))
    | (refine o_pure (v := ?_) (a' := ?_) rfl rfl (by rfl) ?_ ?_ ?_; rotate_left 2; (focus (intro w'; go_simp; with_reducible rfl)); (focus (simp only [Act.put, List.setIfInBounds_toArray, List.set_cons_zero, List.set_cons_succ, i64_w, i32_w]; rfl)))
    | (refine o_loadoff (a' := ?_) rfl rfl (by rfl) hS ?_ ?_; rotate_left; (focus (simp only [Act.put, List.setIfInBounds_toArray, List.set_cons_zero, List.set_cons_succ, i64_w, i32_w]; rfl)))
    | (refine o_load (v := ?_) (a' := ?_) rfl rfl (by rfl) hS ?_ ?_ ?_; rotate_left 2; (focus (rintro w' ⟨_, i0, i1, i2⟩; have c0 := i0.c0; have d0 := i0.c1; have c1 := i1.c0; have d1 := i1.c1; have c2 := i2.c0; have d2 := i2.c1; go_simp; with_reducible rfl)); (focus (simp only [Act.put, List.setIfInBounds_toArray, List.set_cons_zero, List.set_cons_succ, i64_w, i32_w]; rfl)))
    | (refine o_one rfl ?_)
    | (refine o_fork2 rfl rfl ?_ ?_)
    | (refine s_off (a' := ?_) rfl (by rfl) hS ?_ ?_; rotate_left; (focus (simp only [Act.put, List.setIfInBounds_toArray, List.set_cons_zero, List.set_cons_succ, i64_w, i32_w]; rfl))))
  refine o_done ?_
  obtain ⟨hB, i0, i1, i2⟩ := hS
  have c0 := i0.c0; have d0 := i0.c1; have c1 := i1.c0; have d1 := i1.c1; have c2 := i2.c0; have d2 := i2.c1; 
  have f0 := i0.f0 0; have e0 := i0.f0 1
  have f1 := i1.f0 0; have e1 := i1.f0 1
  have f2 := i2.f0 0; have e2 := i2.f0 1
  go_wp2_with (go_at_call 37; refine (bit_any _ _ _ _ _ _ (by decide) (by assumption) (by assumption) (by assumption) (by assumption)).mono ?_; rintro e w3 ⟨rfl, hb⟩; replace hB := below_call hB hb; replace i0 := IB.below i0 hb; have c0 := i0.c0; have d0 := i0.c1; have f0 := i0.f0 0; have e0 := i0.f0 1; replace i1 := IB.below i1 hb; have c1 := i1.c0; have d1 := i1.c1; have f1 := i1.f0 0; have e1 := i1.f0 1; replace i2 := IB.below i2 hb; have c2 := i2.c0; have d2 := i2.c1; have f2 := i2.f0 0; have e2 := i2.f0 1; clear hb)
  refine bodyPost_ret (v := .agg #[.int .i64 ((bitF 7 p q r s).1), .int .i64 ((bitF 7 p q r s).2)]) ?_ rfl ⟨rfl, ?_⟩
  · have k0 := ((i2.set0 ((bitF 7 p q r s).1)).set1 ((bitF 7 p q r s).2)).c0
    have k1 := ((i2.set0 ((bitF 7 p q r s).1)).set1 ((bitF 7 p q r s).2)).c1
    simp [results, Try.results16, go_sem, k0, k1]
  · exact below_set (below_set hB (by omega) _) (by omega) _
theorem do_8 (a b c d p q r s : Int) (w : World) (hpq : fixP a b = (p, q)) (hrs : fixP c d = (r, s)) (h1 : emptyB p q = false) (h2 : emptyB r s = false) (b0 : -2147483648 ≤ p) (b1 : p ≤ 2147483647) (b2 : -2147483648 ≤ q) (b3 : q ≤ 2147483647) (b4 : -2147483648 ≤ r) (b5 : r ≤ 2147483647) (b6 : -2147483648 ≤ s) (b7 : s ≤ 2147483647) (h3 : p ≤ q) (h4 : r ≤ s) :
    Calls Try.prog 16 #[.int .i64 8, .agg #[.int .i64 a, .int .i64 b], .agg #[.int .i64 c, .int .i64 d]] w fun e w' => e = .returned (.agg #[.int .i64 (bitF 8 p q r s).1, .int .i64 (bitF 8 p q r s).2]) ∧ Below w.heap.size w w' := by
  have Hpq := Lib.hid hpq; have Hrs := Lib.hid hrs; clear hpq hrs
  go_enter Try.func16, Try.ntmps16
  go_wp2_with fail
  refine o_start (S := (fun w' => Below w.heap.size w w' ∧ IB w' (w.heap.size) (a) (b) ∧ IB w' (w.heap.size + 1) (c) (d) ∧ IB w' (w.heap.size + 2) (0) (0))) (ds := [4, 5]) (.cons 0 1 (.cons 2 1 (.cons 1 2 (.cons 3 2 (.cons 4 3 (.cons 5 3 .nil)))))) (by kernel_rfl) (by kernel_rfl) (fun _ _ d _ _ h => by cases d <;> exact h) ⟨((((Below.refl _ _).alloc (Nat.le_refl _) _).alloc (by simp) _).alloc (by simp; omega) _).drew, (((IB.new w a b).alloc _).alloc _).drew, ((IB.at (by simp) c d).alloc _).drew, (IB.at (by simp) 0 0).drew⟩ (fun w1 hS => ?_)
  repeat' (first
    | (refine o_off (a' := ?_) rfl rfl (by rfl) ?_ ?_; rotate_left; (focus (simp only [Act.put, List.setIfInBounds_toArray, List.set_cons_zero, List.set_cons_succ, i64_w, i32_w]; rfl)))
    | (refine o_pure (v := ?_) (a' := ?_) rfl rfl (by rfl) ?_ ?_ ?_; rotate_left 2; (focus (intro w'; go_simp; with_reducible rfl)); (focus (simp only [Act.put, List.setIfInBounds_toArray, List.set_cons_zero, List.set_cons_succ, i64_w, i32_w]; rfl)))
    | (refine o_loadoff (a' := ?_) rfl rfl (by rfl) hS ?_ ?_; rotate_left; (focus (simp only [Act.put, List.setIfInBounds_toArray, List.set_cons_zero, List.set_cons_succ, i64_w, i32_w]; rfl)))
    | (refine o_load (v := ?_) (a' := ?_) rfl rfl (by rfl) hS ?_ ?_ ?_; rotate_left 2; (focus (rintro w' ⟨_, i0, i1, i2⟩; have c0 := i0.c0; have d0 := i0.c1; have c1 := i1.c0; have d1 := i1.c1; have c2 := i2.c0; have d2 := i2.c1; go_simp; with_reducible rfl)); (focus (simp only [Act.put, List.setIfInBounds_toArray, List.set_cons_zero, List.set_cons_succ, i64_w, i32_w]; rfl)))
    | (refine o_one rfl ?_)
    | (refine o_fork2 rfl rfl ?_ ?_)
    | (refine s_off (a' := ?_) rfl (by rfl) hS ?_ ?_; rotate_left; (focus (simp only [Act.put, List.setIfInBounds_toArray, List.set_cons_zero, List.set_cons_succ, i64_w, i32_w]; rfl)))
    | (refine s_call (f := 33) (a' := ?_) rfl (by rfl) rfl Try.func33 (by kernel_rfl) rfl (fix_as Hpq.out _) (by (try simp only [List.map_toArray, List.map_cons, List.map_nil]); first | done | rfl) (fun w' hb => ⟨below_call hS.1 hb, IB.below hS.2.1 hb, IB.below hS.2.2.1 hb, IB.below hS.2.2.2 hb⟩) ?_ ?_; rotate_left; (focus (simp only [Act.put, List.setIfInBounds_toArray, List.set_cons_zero, List.set_cons_succ, i64_w, i32_w]; rfl)); clear hS; intro w1 hb hS; clear hb)
    | (refine s_call (f := 33) (a' := ?_) rfl (by rfl) rfl Try.func33 (by kernel_rfl) rfl (fix_as Hrs.out _) (by (try simp only [List.map_toArray, List.map_cons, List.map_nil]); first | done | rfl) (fun w' hb => ⟨below_call hS.1 hb, IB.below hS.2.1 hb, IB.below hS.2.2.1 hb, IB.below hS.2.2.2 hb⟩) ?_ ?_; rotate_left; (focus (simp only [Act.put, List.setIfInBounds_toArray, List.set_cons_zero, List.set_cons_succ, i64_w, i32_w]; rfl)); clear hS; intro w1 hb hS; clear hb))
  obtain ⟨hB, i0, i1, i2⟩ := hS
  have c0 := i0.c0; have d0 := i0.c1; have c1 := i1.c0; have d1 := i1.c1; have c2 := i2.c0; have d2 := i2.c1; 
  have f0 := i0.f0 0; have e0 := i0.f0 1
  have f1 := i1.f0 0; have e1 := i1.f0 1
  have f2 := i2.f0 0; have e2 := i2.f0 1
  (refine o_store (w1 := ?_) rfl rfl (by rfl) ?_ ?_; rotate_left; (focus (go_simp; rfl)))
  (refine o_store (w1 := ?_) rfl rfl (by rfl) ?_ ?_; rotate_left; (focus (go_simp; rfl)))
  refine o_close (S' := (fun w' => Below w.heap.size w w' ∧ IB w' (w.heap.size) (p) (q) ∧ IB w' (w.heap.size + 1) (r) (s) ∧ IB w' (w.heap.size + 2) (0) (0))) ⟨below_set (below_set (below_set (below_set hB (by omega) _) (by omega) _) (by omega) _) (by omega) _, ((((i0.set0 p).set1 q).far (by omega) _).far (by omega) _), (((((i1.far (by omega) _).far (by omega) _).set0 r)).set1 s), ((((i2.far (by omega) _).far (by omega) _).far (by omega) _).far (by omega) _)⟩ (fun w2 hS => ?_)
  clear i0 c0 d0 f0 e0 i1 c1 d1 f1 e1 i2 c2 d2 f2 e2 hB
  obtain ⟨hB, i0, i1, i2⟩ := hS
  have c0 := i0.c0; have d0 := i0.c1; have c1 := i1.c0; have d1 := i1.c1; have c2 := i2.c0; have d2 := i2.c1; 
  have f0 := i0.f0 0; have e0 := i0.f0 1
  have f1 := i1.f0 0; have e1 := i1.f0 1
  have f2 := i2.f0 0; have e2 := i2.f0 1
  go_wp2_with (go_at_call 34; refine (empty_any _ _ _).mono ?_; rintro e w3 ⟨rfl, hb⟩; replace hB := below_call hB hb; replace i0 := IB.below i0 hb; have c0 := i0.c0; have d0 := i0.c1; have f0 := i0.f0 0; have e0 := i0.f0 1; replace i1 := IB.below i1 hb; have c1 := i1.c0; have d1 := i1.c1; have f1 := i1.f0 0; have e1 := i1.f0 1; replace i2 := IB.below i2 hb; have c2 := i2.c0; have d2 := i2.c1; have f2 := i2.f0 0; have e2 := i2.f0 1; clear hb)
  refine o_start (S := (fun w' => Below w.heap.size w w' ∧ IB w' (w.heap.size) (p) (q) ∧ IB w' (w.heap.size + 1) (r) (s) ∧ IB w' (w.heap.size + 2) (0) (0))) (ds := []) (.cons 0 0 (.cons 1 1 (.cons 2 0 (.cons 3 1 (.cons 4 0 (.cons 5 1 (.cons 6 0 (.cons 7 1 (.cons 8 0 (.cons 9 0 (.cons 10 0 (.cons 11 0 .nil)))))))))))) (by kernel_rfl) (by kernel_rfl) (fun _ _ d _ _ h => by cases d <;> exact h) ⟨hB.drew, i0.drew, i1.drew, i2.drew⟩ (fun w1 hS => ?_)
  clear hB i0 c0 d0 f0 e0 i1 c1 d1 f1 e1 i2 c2 d2 f2 e2
  repeat' (first
    | (refine o_off (a' := ?_) rfl rfl (by rfl) ?_ ?_; rotate_left; (focus (simp only [Act.put, List.setIfInBounds_toArray, List.set_cons_zero, List.set_cons_succ, i64_w, i32_w]; rfl)))
    | (refine o_pure (v := ?_) (a' := ?_) rfl rfl (by rfl) ?_ ?_ ?_; rotate_left 2; (focus (intro w'; go_simp; with_reducible rfl)); (focus (simp only [Act.put, List.setIfInBounds_toArray, List.set_cons_zero, List.set_cons_succ, i64_w, i32_w]; rfl)))
    | (refine o_loadoff (a' := ?_) rfl rfl (by rfl) hS ?_ ?_; rotate_left; (focus (simp only [Act.put, List.setIfInBounds_toArray, List.set_cons_zero, List.set_cons_succ, i64_w, i32_w]; rfl)))
    | (refine o_load (v := ?_) (a' := ?_) rfl rfl (by rfl) hS ?_ ?_ ?_; rotate_left 2; (focus (rintro w' ⟨_, i0, i1, i2⟩; have c0 := i0.c0; have d0 := i0.c1; have c1 := i1.c0; have d1 := i1.c1; have c2 := i2.c0; have d2 := i2.c1; go_simp; with_reducible rfl)); (focus (simp only [Act.put, List.setIfInBounds_toArray, List.set_cons_zero, List.set_cons_succ, i64_w, i32_w]; rfl)))
    | (refine o_one rfl ?_)
    | (refine o_fork2 rfl rfl ?_ ?_)
    | (refine s_off (a' := ?_) rfl (by rfl) hS ?_ ?_; rotate_left; (focus (simp only [Act.put, List.setIfInBounds_toArray, List.set_cons_zero, List.set_cons_succ, i64_w, i32_w]; rfl))))
  refine o_done ?_
  obtain ⟨hB, i0, i1, i2⟩ := hS
  have c0 := i0.c0; have d0 := i0.c1; have c1 := i1.c0; have d1 := i1.c1; have c2 := i2.c0; have d2 := i2.c1; 
  have f0 := i0.f0 0; have e0 := i0.f0 1
  have f1 := i1.f0 0; have e1 := i1.f0 1
  have f2 := i2.f0 0; have e2 := i2.f0 1
  go_wp2_with (go_at_call 37; refine (bit_any _ _ _ _ _ _ (by decide) (by assumption) (by assumption) (by assumption) (by assumption)).mono ?_; rintro e w3 ⟨rfl, hb⟩; replace hB := below_call hB hb; replace i0 := IB.below i0 hb; have c0 := i0.c0; have d0 := i0.c1; have f0 := i0.f0 0; have e0 := i0.f0 1; replace i1 := IB.below i1 hb; have c1 := i1.c0; have d1 := i1.c1; have f1 := i1.f0 0; have e1 := i1.f0 1; replace i2 := IB.below i2 hb; have c2 := i2.c0; have d2 := i2.c1; have f2 := i2.f0 0; have e2 := i2.f0 1; clear hb)
  refine bodyPost_ret (v := .agg #[.int .i64 ((bitF 8 p q r s).1), .int .i64 ((bitF 8 p q r s).2)]) ?_ rfl ⟨rfl, ?_⟩
  · have k0 := ((i2.set0 ((bitF 8 p q r s).1)).set1 ((bitF 8 p q r s).2)).c0
    have k1 := ((i2.set0 ((bitF 8 p q r s).1)).set1 ((bitF 8 p q r s).2)).c1
    simp [results, Try.results16, go_sem, k0, k1]
  · exact below_set (below_set hB (by omega) _) (by omega) _
theorem do_11 (a b c d p q r s : Int) (w : World) (hpq : fixP a b = (p, q)) (hrs : fixP c d = (r, s)) (h1 : emptyB p q = false) (h2 : emptyB r s = false) (b0 : -2147483648 ≤ p) (b1 : p ≤ 2147483647) (b2 : -2147483648 ≤ q) (b3 : q ≤ 2147483647) (b4 : -2147483648 ≤ r) (b5 : r ≤ 2147483647) (b6 : -2147483648 ≤ s) (b7 : s ≤ 2147483647) (h3 : p ≤ q) (h4 : r ≤ s) (h5 : Fixed p q) (h6 : Fixed r s) :
    Calls Try.prog 16 #[.int .i64 11, .agg #[.int .i64 a, .int .i64 b], .agg #[.int .i64 c, .int .i64 d]] w fun e w' => e = .returned (.agg #[.int .i64 (cmpF 11 p q r s).1, .int .i64 (cmpF 11 p q r s).2]) ∧ Below w.heap.size w w' := by
  have Hpq := Lib.hid hpq; have Hrs := Lib.hid hrs; clear hpq hrs
  go_enter Try.func16, Try.ntmps16
  go_wp2_with fail
  refine o_start (S := (fun w' => Below w.heap.size w w' ∧ IB w' (w.heap.size) (a) (b) ∧ IB w' (w.heap.size + 1) (c) (d) ∧ IB w' (w.heap.size + 2) (0) (0))) (ds := [4, 5]) (.cons 0 1 (.cons 2 1 (.cons 1 2 (.cons 3 2 (.cons 4 3 (.cons 5 3 .nil)))))) (by kernel_rfl) (by kernel_rfl) (fun _ _ d _ _ h => by cases d <;> exact h) ⟨((((Below.refl _ _).alloc (Nat.le_refl _) _).alloc (by simp) _).alloc (by simp; omega) _).drew, (((IB.new w a b).alloc _).alloc _).drew, ((IB.at (by simp) c d).alloc _).drew, (IB.at (by simp) 0 0).drew⟩ (fun w1 hS => ?_)
  repeat' (first
    | (refine o_off (a' := ?_) rfl rfl (by rfl) ?_ ?_; rotate_left; (focus (simp only [Act.put, List.setIfInBounds_toArray, List.set_cons_zero, List.set_cons_succ, i64_w, i32_w]; rfl)))
    | (refine o_pure (v := ?_) (a' := ?_) rfl rfl (by rfl) ?_ ?_ ?_; rotate_left 2; (focus (intro w'; go_simp; with_reducible rfl)); (focus (simp only [Act.put, List.setIfInBounds_toArray, List.set_cons_zero, List.set_cons_succ, i64_w, i32_w]; rfl)))
    | (refine o_loadoff (a' := ?_) rfl rfl (by rfl) hS ?_ ?_; rotate_left; (focus (simp only [Act.put, List.setIfInBounds_toArray, List.set_cons_zero, List.set_cons_succ, i64_w, i32_w]; rfl)))
    | (refine o_load (v := ?_) (a' := ?_) rfl rfl (by rfl) hS ?_ ?_ ?_; rotate_left 2; (focus (rintro w' ⟨_, i0, i1, i2⟩; have c0 := i0.c0; have d0 := i0.c1; have c1 := i1.c0; have d1 := i1.c1; have c2 := i2.c0; have d2 := i2.c1; go_simp; with_reducible rfl)); (focus (simp only [Act.put, List.setIfInBounds_toArray, List.set_cons_zero, List.set_cons_succ, i64_w, i32_w]; rfl)))
    | (refine o_one rfl ?_)
    | (refine o_fork2 rfl rfl ?_ ?_)
    | (refine s_off (a' := ?_) rfl (by rfl) hS ?_ ?_; rotate_left; (focus (simp only [Act.put, List.setIfInBounds_toArray, List.set_cons_zero, List.set_cons_succ, i64_w, i32_w]; rfl)))
    | (refine s_call (f := 33) (a' := ?_) rfl (by rfl) rfl Try.func33 (by kernel_rfl) rfl (fix_as Hpq.out _) (by (try simp only [List.map_toArray, List.map_cons, List.map_nil]); first | done | rfl) (fun w' hb => ⟨below_call hS.1 hb, IB.below hS.2.1 hb, IB.below hS.2.2.1 hb, IB.below hS.2.2.2 hb⟩) ?_ ?_; rotate_left; (focus (simp only [Act.put, List.setIfInBounds_toArray, List.set_cons_zero, List.set_cons_succ, i64_w, i32_w]; rfl)); clear hS; intro w1 hb hS; clear hb)
    | (refine s_call (f := 33) (a' := ?_) rfl (by rfl) rfl Try.func33 (by kernel_rfl) rfl (fix_as Hrs.out _) (by (try simp only [List.map_toArray, List.map_cons, List.map_nil]); first | done | rfl) (fun w' hb => ⟨below_call hS.1 hb, IB.below hS.2.1 hb, IB.below hS.2.2.1 hb, IB.below hS.2.2.2 hb⟩) ?_ ?_; rotate_left; (focus (simp only [Act.put, List.setIfInBounds_toArray, List.set_cons_zero, List.set_cons_succ, i64_w, i32_w]; rfl)); clear hS; intro w1 hb hS; clear hb))
  obtain ⟨hB, i0, i1, i2⟩ := hS
  have c0 := i0.c0; have d0 := i0.c1; have c1 := i1.c0; have d1 := i1.c1; have c2 := i2.c0; have d2 := i2.c1; 
  have f0 := i0.f0 0; have e0 := i0.f0 1
  have f1 := i1.f0 0; have e1 := i1.f0 1
  have f2 := i2.f0 0; have e2 := i2.f0 1
  (refine o_store (w1 := ?_) rfl rfl (by rfl) ?_ ?_; rotate_left; (focus (go_simp; rfl)))
  (refine o_store (w1 := ?_) rfl rfl (by rfl) ?_ ?_; rotate_left; (focus (go_simp; rfl)))
  refine o_close (S' := (fun w' => Below w.heap.size w w' ∧ IB w' (w.heap.size) (p) (q) ∧ IB w' (w.heap.size + 1) (r) (s) ∧ IB w' (w.heap.size + 2) (0) (0))) ⟨below_set (below_set (below_set (below_set hB (by omega) _) (by omega) _) (by omega) _) (by omega) _, ((((i0.set0 p).set1 q).far (by omega) _).far (by omega) _), (((((i1.far (by omega) _).far (by omega) _).set0 r)).set1 s), ((((i2.far (by omega) _).far (by omega) _).far (by omega) _).far (by omega) _)⟩ (fun w2 hS => ?_)
  clear i0 c0 d0 f0 e0 i1 c1 d1 f1 e1 i2 c2 d2 f2 e2 hB
  obtain ⟨hB, i0, i1, i2⟩ := hS
  have c0 := i0.c0; have d0 := i0.c1; have c1 := i1.c0; have d1 := i1.c1; have c2 := i2.c0; have d2 := i2.c1; 
  have f0 := i0.f0 0; have e0 := i0.f0 1
  have f1 := i1.f0 0; have e1 := i1.f0 1
  have f2 := i2.f0 0; have e2 := i2.f0 1
  go_wp2_with (go_at_call 34; refine (empty_any _ _ _).mono ?_; rintro e w3 ⟨rfl, hb⟩; replace hB := below_call hB hb; replace i0 := IB.below i0 hb; have c0 := i0.c0; have d0 := i0.c1; have f0 := i0.f0 0; have e0 := i0.f0 1; replace i1 := IB.below i1 hb; have c1 := i1.c0; have d1 := i1.c1; have f1 := i1.f0 0; have e1 := i1.f0 1; replace i2 := IB.below i2 hb; have c2 := i2.c0; have d2 := i2.c1; have f2 := i2.f0 0; have e2 := i2.f0 1; clear hb)
  refine o_start (S := (fun w' => Below w.heap.size w w' ∧ IB w' (w.heap.size) (p) (q) ∧ IB w' (w.heap.size + 1) (r) (s) ∧ IB w' (w.heap.size + 2) (0) (0))) (ds := []) (.cons 0 0 (.cons 1 1 (.cons 2 0 (.cons 3 1 (.cons 4 0 (.cons 5 1 (.cons 6 0 (.cons 7 1 (.cons 8 0 (.cons 9 0 (.cons 10 0 (.cons 11 0 .nil)))))))))))) (by kernel_rfl) (by kernel_rfl) (fun _ _ d _ _ h => by cases d <;> exact h) ⟨hB.drew, i0.drew, i1.drew, i2.drew⟩ (fun w1 hS => ?_)
  clear hB i0 c0 d0 f0 e0 i1 c1 d1 f1 e1 i2 c2 d2 f2 e2
  repeat' (first
    | (refine o_off (a' := ?_) rfl rfl (by rfl) ?_ ?_; rotate_left; (focus (simp only [Act.put, List.setIfInBounds_toArray, List.set_cons_zero, List.set_cons_succ, i64_w, i32_w]; rfl)))
    | (refine o_pure (v := ?_) (a' := ?_) rfl rfl (by rfl) ?_ ?_ ?_; rotate_left 2; (focus (intro w'; go_simp; with_reducible rfl)); (focus (simp only [Act.put, List.setIfInBounds_toArray, List.set_cons_zero, List.set_cons_succ, i64_w, i32_w]; rfl)))
    | (refine o_loadoff (a' := ?_) rfl rfl (by rfl) hS ?_ ?_; rotate_left; (focus (simp only [Act.put, List.setIfInBounds_toArray, List.set_cons_zero, List.set_cons_succ, i64_w, i32_w]; rfl)))
    | (refine o_load (v := ?_) (a' := ?_) rfl rfl (by rfl) hS ?_ ?_ ?_; rotate_left 2; (focus (rintro w' ⟨_, i0, i1, i2⟩; have c0 := i0.c0; have d0 := i0.c1; have c1 := i1.c0; have d1 := i1.c1; have c2 := i2.c0; have d2 := i2.c1; go_simp; with_reducible rfl)); (focus (simp only [Act.put, List.setIfInBounds_toArray, List.set_cons_zero, List.set_cons_succ, i64_w, i32_w]; rfl)))
    | (refine o_one rfl ?_)
    | (refine o_fork2 rfl rfl ?_ ?_)
    | (refine s_off (a' := ?_) rfl (by rfl) hS ?_ ?_; rotate_left; (focus (simp only [Act.put, List.setIfInBounds_toArray, List.set_cons_zero, List.set_cons_succ, i64_w, i32_w]; rfl))))
  refine o_done ?_
  obtain ⟨hB, i0, i1, i2⟩ := hS
  have c0 := i0.c0; have d0 := i0.c1; have c1 := i1.c0; have d1 := i1.c1; have c2 := i2.c0; have d2 := i2.c1; 
  have f0 := i0.f0 0; have e0 := i0.f0 1
  have f1 := i1.f0 0; have e1 := i1.f0 1
  have f2 := i2.f0 0; have e2 := i2.f0 1
  go_wp2_with (go_at_call 39; refine (cmp_any _ _ _ _ _ _ (by decide) (by assumption) (by assumption) (by assumption) (by assumption)).mono ?_; rintro e w3 ⟨rfl, hb⟩; replace hB := below_call hB hb; replace i0 := IB.below i0 hb; have c0 := i0.c0; have d0 := i0.c1; have f0 := i0.f0 0; have e0 := i0.f0 1; replace i1 := IB.below i1 hb; have c1 := i1.c0; have d1 := i1.c1; have f1 := i1.f0 0; have e1 := i1.f0 1; replace i2 := IB.below i2 hb; have c2 := i2.c0; have d2 := i2.c1; have f2 := i2.f0 0; have e2 := i2.f0 1; clear hb)
  refine bodyPost_ret (v := .agg #[.int .i64 ((cmpF 11 p q r s).1), .int .i64 ((cmpF 11 p q r s).2)]) ?_ rfl ⟨rfl, ?_⟩
  · have k0 := ((i2.set0 ((cmpF 11 p q r s).1)).set1 ((cmpF 11 p q r s).2)).c0
    have k1 := ((i2.set0 ((cmpF 11 p q r s).1)).set1 ((cmpF 11 p q r s).2)).c1
    simp [results, Try.results16, go_sem, k0, k1]
  · exact below_set (below_set hB (by omega) _) (by omega) _
theorem do_12 (a b c d p q r s : Int) (w : World) (hpq : fixP a b = (p, q)) (hrs : fixP c d = (r, s)) (h1 : emptyB p q = false) (h2 : emptyB r s = false) (b0 : -2147483648 ≤ p) (b1 : p ≤ 2147483647) (b2 : -2147483648 ≤ q) (b3 : q ≤ 2147483647) (b4 : -2147483648 ≤ r) (b5 : r ≤ 2147483647) (b6 : -2147483648 ≤ s) (b7 : s ≤ 2147483647) (h3 : p ≤ q) (h4 : r ≤ s) (h5 : Fixed p q) (h6 : Fixed r s) :
    Calls Try.prog 16 #[.int .i64 12, .agg #[.int .i64 a, .int .i64 b], .agg #[.int .i64 c, .int .i64 d]] w fun e w' => e = .returned (.agg #[.int .i64 (cmpF 12 p q r s).1, .int .i64 (cmpF 12 p q r s).2]) ∧ Below w.heap.size w w' := by
  have Hpq := Lib.hid hpq; have Hrs := Lib.hid hrs; clear hpq hrs
  go_enter Try.func16, Try.ntmps16
  go_wp2_with fail
  refine o_start (S := (fun w' => Below w.heap.size w w' ∧ IB w' (w.heap.size) (a) (b) ∧ IB w' (w.heap.size + 1) (c) (d) ∧ IB w' (w.heap.size + 2) (0) (0))) (ds := [4, 5]) (.cons 0 1 (.cons 2 1 (.cons 1 2 (.cons 3 2 (.cons 4 3 (.cons 5 3 .nil)))))) (by kernel_rfl) (by kernel_rfl) (fun _ _ d _ _ h => by cases d <;> exact h) ⟨((((Below.refl _ _).alloc (Nat.le_refl _) _).alloc (by simp) _).alloc (by simp; omega) _).drew, (((IB.new w a b).alloc _).alloc _).drew, ((IB.at (by simp) c d).alloc _).drew, (IB.at (by simp) 0 0).drew⟩ (fun w1 hS => ?_)
  repeat' (first
    | (refine o_off (a' := ?_) rfl rfl (by rfl) ?_ ?_; rotate_left; (focus (simp only [Act.put, List.setIfInBounds_toArray, List.set_cons_zero, List.set_cons_succ, i64_w, i32_w]; rfl)))
    | (refine o_pure (v := ?_) (a' := ?_) rfl rfl (by rfl) ?_ ?_ ?_; rotate_left 2; (focus (intro w'; go_simp; with_reducible rfl)); (focus (simp only [Act.put, List.setIfInBounds_toArray, List.set_cons_zero, List.set_cons_succ, i64_w, i32_w]; rfl)))
    | (refine o_loadoff (a' := ?_) rfl rfl (by rfl) hS ?_ ?_; rotate_left; (focus (simp only [Act.put, List.setIfInBounds_toArray, List.set_cons_zero, List.set_cons_succ, i64_w, i32_w]; rfl)))
    | (refine o_load (v := ?_) (a' := ?_) rfl rfl (by rfl) hS ?_ ?_ ?_; rotate_left 2; (focus (rintro w' ⟨_, i0, i1, i2⟩; have c0 := i0.c0; have d0 := i0.c1; have c1 := i1.c0; have d1 := i1.c1; have c2 := i2.c0; have d2 := i2.c1; go_simp; with_reducible rfl)); (focus (simp only [Act.put, List.setIfInBounds_toArray, List.set_cons_zero, List.set_cons_succ, i64_w, i32_w]; rfl)))
    | (refine o_one rfl ?_)
    | (refine o_fork2 rfl rfl ?_ ?_)
    | (refine s_off (a' := ?_) rfl (by rfl) hS ?_ ?_; rotate_left; (focus (simp only [Act.put, List.setIfInBounds_toArray, List.set_cons_zero, List.set_cons_succ, i64_w, i32_w]; rfl)))
    | (refine s_call (f := 33) (a' := ?_) rfl (by rfl) rfl Try.func33 (by kernel_rfl) rfl (fix_as Hpq.out _) (by (try simp only [List.map_toArray, List.map_cons, List.map_nil]); first | done | rfl) (fun w' hb => ⟨below_call hS.1 hb, IB.below hS.2.1 hb, IB.below hS.2.2.1 hb, IB.below hS.2.2.2 hb⟩) ?_ ?_; rotate_left; (focus (simp only [Act.put, List.setIfInBounds_toArray, List.set_cons_zero, List.set_cons_succ, i64_w, i32_w]; rfl)); clear hS; intro w1 hb hS; clear hb)
    | (refine s_call (f := 33) (a' := ?_) rfl (by rfl) rfl Try.func33 (by kernel_rfl) rfl (fix_as Hrs.out _) (by (try simp only [List.map_toArray, List.map_cons, List.map_nil]); first | done | rfl) (fun w' hb => ⟨below_call hS.1 hb, IB.below hS.2.1 hb, IB.below hS.2.2.1 hb, IB.below hS.2.2.2 hb⟩) ?_ ?_; rotate_left; (focus (simp only [Act.put, List.setIfInBounds_toArray, List.set_cons_zero, List.set_cons_succ, i64_w, i32_w]; rfl)); clear hS; intro w1 hb hS; clear hb))
  obtain ⟨hB, i0, i1, i2⟩ := hS
  have c0 := i0.c0; have d0 := i0.c1; have c1 := i1.c0; have d1 := i1.c1; have c2 := i2.c0; have d2 := i2.c1; 
  have f0 := i0.f0 0; have e0 := i0.f0 1
  have f1 := i1.f0 0; have e1 := i1.f0 1
  have f2 := i2.f0 0; have e2 := i2.f0 1
  (refine o_store (w1 := ?_) rfl rfl (by rfl) ?_ ?_; rotate_left; (focus (go_simp; rfl)))
  (refine o_store (w1 := ?_) rfl rfl (by rfl) ?_ ?_; rotate_left; (focus (go_simp; rfl)))
  refine o_close (S' := (fun w' => Below w.heap.size w w' ∧ IB w' (w.heap.size) (p) (q) ∧ IB w' (w.heap.size + 1) (r) (s) ∧ IB w' (w.heap.size + 2) (0) (0))) ⟨below_set (below_set (below_set (below_set hB (by omega) _) (by omega) _) (by omega) _) (by omega) _, ((((i0.set0 p).set1 q).far (by omega) _).far (by omega) _), (((((i1.far (by omega) _).far (by omega) _).set0 r)).set1 s), ((((i2.far (by omega) _).far (by omega) _).far (by omega) _).far (by omega) _)⟩ (fun w2 hS => ?_)
  clear i0 c0 d0 f0 e0 i1 c1 d1 f1 e1 i2 c2 d2 f2 e2 hB
  obtain ⟨hB, i0, i1, i2⟩ := hS
  have c0 := i0.c0; have d0 := i0.c1; have c1 := i1.c0; have d1 := i1.c1; have c2 := i2.c0; have d2 := i2.c1; 
  have f0 := i0.f0 0; have e0 := i0.f0 1
  have f1 := i1.f0 0; have e1 := i1.f0 1
  have f2 := i2.f0 0; have e2 := i2.f0 1
  go_wp2_with (go_at_call 34; refine (empty_any _ _ _).mono ?_; rintro e w3 ⟨rfl, hb⟩; replace hB := below_call hB hb; replace i0 := IB.below i0 hb; have c0 := i0.c0; have d0 := i0.c1; have f0 := i0.f0 0; have e0 := i0.f0 1; replace i1 := IB.below i1 hb; have c1 := i1.c0; have d1 := i1.c1; have f1 := i1.f0 0; have e1 := i1.f0 1; replace i2 := IB.below i2 hb; have c2 := i2.c0; have d2 := i2.c1; have f2 := i2.f0 0; have e2 := i2.f0 1; clear hb)
  refine o_start (S := (fun w' => Below w.heap.size w w' ∧ IB w' (w.heap.size) (p) (q) ∧ IB w' (w.heap.size + 1) (r) (s) ∧ IB w' (w.heap.size + 2) (0) (0))) (ds := []) (.cons 0 0 (.cons 1 1 (.cons 2 0 (.cons 3 1 (.cons 4 0 (.cons 5 1 (.cons 6 0 (.cons 7 1 (.cons 8 0 (.cons 9 0 (.cons 10 0 (.cons 11 0 .nil)))))))))))) (by kernel_rfl) (by kernel_rfl) (fun _ _ d _ _ h => by cases d <;> exact h) ⟨hB.drew, i0.drew, i1.drew, i2.drew⟩ (fun w1 hS => ?_)
  clear hB i0 c0 d0 f0 e0 i1 c1 d1 f1 e1 i2 c2 d2 f2 e2
  repeat' (first
    | (refine o_off (a' := ?_) rfl rfl (by rfl) ?_ ?_; rotate_left; (focus (simp only [Act.put, List.setIfInBounds_toArray, List.set_cons_zero, List.set_cons_succ, i64_w, i32_w]; rfl)))
    | (refine o_pure (v := ?_) (a' := ?_) rfl rfl (by rfl) ?_ ?_ ?_; rotate_left 2; (focus (intro w'; go_simp; with_reducible rfl)); (focus (simp only [Act.put, List.setIfInBounds_toArray, List.set_cons_zero, List.set_cons_succ, i64_w, i32_w]; rfl)))
    | (refine o_loadoff (a' := ?_) rfl rfl (by rfl) hS ?_ ?_; rotate_left; (focus (simp only [Act.put, List.setIfInBounds_toArray, List.set_cons_zero, List.set_cons_succ, i64_w, i32_w]; rfl)))
    | (refine o_load (v := ?_) (a' := ?_) rfl rfl (by rfl) hS ?_ ?_ ?_; rotate_left 2; (focus (rintro w' ⟨_, i0, i1, i2⟩; have c0 := i0.c0; have d0 := i0.c1; have c1 := i1.c0; have d1 := i1.c1; have c2 := i2.c0; have d2 := i2.c1; go_simp; with_reducible rfl)); (focus (simp only [Act.put, List.setIfInBounds_toArray, List.set_cons_zero, List.set_cons_succ, i64_w, i32_w]; rfl)))
    | (refine o_one rfl ?_)
    | (refine o_fork2 rfl rfl ?_ ?_)
    | (refine s_off (a' := ?_) rfl (by rfl) hS ?_ ?_; rotate_left; (focus (simp only [Act.put, List.setIfInBounds_toArray, List.set_cons_zero, List.set_cons_succ, i64_w, i32_w]; rfl))))
  refine o_done ?_
  obtain ⟨hB, i0, i1, i2⟩ := hS
  have c0 := i0.c0; have d0 := i0.c1; have c1 := i1.c0; have d1 := i1.c1; have c2 := i2.c0; have d2 := i2.c1; 
  have f0 := i0.f0 0; have e0 := i0.f0 1
  have f1 := i1.f0 0; have e1 := i1.f0 1
  have f2 := i2.f0 0; have e2 := i2.f0 1
  go_wp2_with (go_at_call 39; refine (cmp_any _ _ _ _ _ _ (by decide) (by assumption) (by assumption) (by assumption) (by assumption)).mono ?_; rintro e w3 ⟨rfl, hb⟩; replace hB := below_call hB hb; replace i0 := IB.below i0 hb; have c0 := i0.c0; have d0 := i0.c1; have f0 := i0.f0 0; have e0 := i0.f0 1; replace i1 := IB.below i1 hb; have c1 := i1.c0; have d1 := i1.c1; have f1 := i1.f0 0; have e1 := i1.f0 1; replace i2 := IB.below i2 hb; have c2 := i2.c0; have d2 := i2.c1; have f2 := i2.f0 0; have e2 := i2.f0 1; clear hb)
  refine bodyPost_ret (v := .agg #[.int .i64 ((cmpF 12 p q r s).1), .int .i64 ((cmpF 12 p q r s).2)]) ?_ rfl ⟨rfl, ?_⟩
  · have k0 := ((i2.set0 ((cmpF 12 p q r s).1)).set1 ((cmpF 12 p q r s).2)).c0
    have k1 := ((i2.set0 ((cmpF 12 p q r s).1)).set1 ((cmpF 12 p q r s).2)).c1
    simp [results, Try.results16, go_sem, k0, k1]
  · exact below_set (below_set hB (by omega) _) (by omega) _
theorem do_13 (a b c d p q r s : Int) (w : World) (hpq : fixP a b = (p, q)) (hrs : fixP c d = (r, s)) (h1 : emptyB p q = false) (h2 : emptyB r s = false) (b0 : -2147483648 ≤ p) (b1 : p ≤ 2147483647) (b2 : -2147483648 ≤ q) (b3 : q ≤ 2147483647) (b4 : -2147483648 ≤ r) (b5 : r ≤ 2147483647) (b6 : -2147483648 ≤ s) (b7 : s ≤ 2147483647) (h3 : p ≤ q) (h4 : r ≤ s) (h5 : Fixed p q) (h6 : Fixed r s) :
    Calls Try.prog 16 #[.int .i64 13, .agg #[.int .i64 a, .int .i64 b], .agg #[.int .i64 c, .int .i64 d]] w fun e w' => e = .returned (.agg #[.int .i64 (cmpF 13 p q r s).1, .int .i64 (cmpF 13 p q r s).2]) ∧ Below w.heap.size w w' := by
  have Hpq := Lib.hid hpq; have Hrs := Lib.hid hrs; clear hpq hrs
  go_enter Try.func16, Try.ntmps16
  go_wp2_with fail
  refine o_start (S := (fun w' => Below w.heap.size w w' ∧ IB w' (w.heap.size) (a) (b) ∧ IB w' (w.heap.size + 1) (c) (d) ∧ IB w' (w.heap.size + 2) (0) (0))) (ds := [4, 5]) (.cons 0 1 (.cons 2 1 (.cons 1 2 (.cons 3 2 (.cons 4 3 (.cons 5 3 .nil)))))) (by kernel_rfl) (by kernel_rfl) (fun _ _ d _ _ h => by cases d <;> exact h) ⟨((((Below.refl _ _).alloc (Nat.le_refl _) _).alloc (by simp) _).alloc (by simp; omega) _).drew, (((IB.new w a b).alloc _).alloc _).drew, ((IB.at (by simp) c d).alloc _).drew, (IB.at (by simp) 0 0).drew⟩ (fun w1 hS => ?_)
  repeat' (first
    | (refine o_off (a' := ?_) rfl rfl (by rfl) ?_ ?_; rotate_left; (focus (simp only [Act.put, List.setIfInBounds_toArray, List.set_cons_zero, List.set_cons_succ, i64_w, i32_w]; rfl)))
    | (refine o_pure (v := ?_) (a' := ?_) rfl rfl (by rfl) ?_ ?_ ?_; rotate_left 2; (focus (intro w'; go_simp; with_reducible rfl)); (focus (simp only [Act.put, List.setIfInBounds_toArray, List.set_cons_zero, List.set_cons_succ, i64_w, i32_w]; rfl)))
    | (refine o_loadoff (a' := ?_) rfl rfl (by rfl) hS ?_ ?_; rotate_left; (focus (simp only [Act.put, List.setIfInBounds_toArray, List.set_cons_zero, List.set_cons_succ, i64_w, i32_w]; rfl)))
    | (refine o_load (v := ?_) (a' := ?_) rfl rfl (by rfl) hS ?_ ?_ ?_; rotate_left 2; (focus (rintro w' ⟨_, i0, i1, i2⟩; have c0 := i0.c0; have d0 := i0.c1; have c1 := i1.c0; have d1 := i1.c1; have c2 := i2.c0; have d2 := i2.c1; go_simp; with_reducible rfl)); (focus (simp only [Act.put, List.setIfInBounds_toArray, List.set_cons_zero, List.set_cons_succ, i64_w, i32_w]; rfl)))
    | (refine o_one rfl ?_)
    | (refine o_fork2 rfl rfl ?_ ?_)
    | (refine s_off (a' := ?_) rfl (by rfl) hS ?_ ?_; rotate_left; (focus (simp only [Act.put, List.setIfInBounds_toArray, List.set_cons_zero, List.set_cons_succ, i64_w, i32_w]; rfl)))
    | (refine s_call (f := 33) (a' := ?_) rfl (by rfl) rfl Try.func33 (by kernel_rfl) rfl (fix_as Hpq.out _) (by (try simp only [List.map_toArray, List.map_cons, List.map_nil]); first | done | rfl) (fun w' hb => ⟨below_call hS.1 hb, IB.below hS.2.1 hb, IB.below hS.2.2.1 hb, IB.below hS.2.2.2 hb⟩) ?_ ?_; rotate_left; (focus (simp only [Act.put, List.setIfInBounds_toArray, List.set_cons_zero, List.set_cons_succ, i64_w, i32_w]; rfl)); clear hS; intro w1 hb hS; clear hb)
    | (refine s_call (f := 33) (a' := ?_) rfl (by rfl) rfl Try.func33 (by kernel_rfl) rfl (fix_as Hrs.out _) (by (try simp only [List.map_toArray, List.map_cons, List.map_nil]); first | done | rfl) (fun w' hb => ⟨below_call hS.1 hb, IB.below hS.2.1 hb, IB.below hS.2.2.1 hb, IB.below hS.2.2.2 hb⟩) ?_ ?_; rotate_left; (focus (simp only [Act.put, List.setIfInBounds_toArray, List.set_cons_zero, List.set_cons_succ, i64_w, i32_w]; rfl)); clear hS; intro w1 hb hS; clear hb))
  obtain ⟨hB, i0, i1, i2⟩ := hS
  have c0 := i0.c0; have d0 := i0.c1; have c1 := i1.c0; have d1 := i1.c1; have c2 := i2.c0; have d2 := i2.c1; 
  have f0 := i0.f0 0; have e0 := i0.f0 1
  have f1 := i1.f0 0; have e1 := i1.f0 1
  have f2 := i2.f0 0; have e2 := i2.f0 1
  (refine o_store (w1 := ?_) rfl rfl (by rfl) ?_ ?_; rotate_left; (focus (go_simp; rfl)))
  (refine o_store (w1 := ?_) rfl rfl (by rfl) ?_ ?_; rotate_left; (focus (go_simp; rfl)))
  refine o_close (S' := (fun w' => Below w.heap.size w w' ∧ IB w' (w.heap.size) (p) (q) ∧ IB w' (w.heap.size + 1) (r) (s) ∧ IB w' (w.heap.size + 2) (0) (0))) ⟨below_set (below_set (below_set (below_set hB (by omega) _) (by omega) _) (by omega) _) (by omega) _, ((((i0.set0 p).set1 q).far (by omega) _).far (by omega) _), (((((i1.far (by omega) _).far (by omega) _).set0 r)).set1 s), ((((i2.far (by omega) _).far (by omega) _).far (by omega) _).far (by omega) _)⟩ (fun w2 hS => ?_)
  clear i0 c0 d0 f0 e0 i1 c1 d1 f1 e1 i2 c2 d2 f2 e2 hB
  obtain ⟨hB, i0, i1, i2⟩ := hS
  have c0 := i0.c0; have d0 := i0.c1; have c1 := i1.c0; have d1 := i1.c1; have c2 := i2.c0; have d2 := i2.c1; 
  have f0 := i0.f0 0; have e0 := i0.f0 1
  have f1 := i1.f0 0; have e1 := i1.f0 1
  have f2 := i2.f0 0; have e2 := i2.f0 1
  go_wp2_with (go_at_call 34; refine (empty_any _ _ _).mono ?_; rintro e w3 ⟨rfl, hb⟩; replace hB := below_call hB hb; replace i0 := IB.below i0 hb; have c0 := i0.c0; have d0 := i0.c1; have f0 := i0.f0 0; have e0 := i0.f0 1; replace i1 := IB.below i1 hb; have c1 := i1.c0; have d1 := i1.c1; have f1 := i1.f0 0; have e1 := i1.f0 1; replace i2 := IB.below i2 hb; have c2 := i2.c0; have d2 := i2.c1; have f2 := i2.f0 0; have e2 := i2.f0 1; clear hb)
  refine o_start (S := (fun w' => Below w.heap.size w w' ∧ IB w' (w.heap.size) (p) (q) ∧ IB w' (w.heap.size + 1) (r) (s) ∧ IB w' (w.heap.size + 2) (0) (0))) (ds := []) (.cons 0 0 (.cons 1 1 (.cons 2 0 (.cons 3 1 (.cons 4 0 (.cons 5 1 (.cons 6 0 (.cons 7 1 (.cons 8 0 (.cons 9 0 (.cons 10 0 (.cons 11 0 .nil)))))))))))) (by kernel_rfl) (by kernel_rfl) (fun _ _ d _ _ h => by cases d <;> exact h) ⟨hB.drew, i0.drew, i1.drew, i2.drew⟩ (fun w1 hS => ?_)
  clear hB i0 c0 d0 f0 e0 i1 c1 d1 f1 e1 i2 c2 d2 f2 e2
  repeat' (first
    | (refine o_off (a' := ?_) rfl rfl (by rfl) ?_ ?_; rotate_left; (focus (simp only [Act.put, List.setIfInBounds_toArray, List.set_cons_zero, List.set_cons_succ, i64_w, i32_w]; rfl)))
    | (refine o_pure (v := ?_) (a' := ?_) rfl rfl (by rfl) ?_ ?_ ?_; rotate_left 2; (focus (intro w'; go_simp; with_reducible rfl)); (focus (simp only [Act.put, List.setIfInBounds_toArray, List.set_cons_zero, List.set_cons_succ, i64_w, i32_w]; rfl)))
    | (refine o_loadoff (a' := ?_) rfl rfl (by rfl) hS ?_ ?_; rotate_left; (focus (simp only [Act.put, List.setIfInBounds_toArray, List.set_cons_zero, List.set_cons_succ, i64_w, i32_w]; rfl)))
    | (refine o_load (v := ?_) (a' := ?_) rfl rfl (by rfl) hS ?_ ?_ ?_; rotate_left 2; (focus (rintro w' ⟨_, i0, i1, i2⟩; have c0 := i0.c0; have d0 := i0.c1; have c1 := i1.c0; have d1 := i1.c1; have c2 := i2.c0; have d2 := i2.c1; go_simp; with_reducible rfl)); (focus (simp only [Act.put, List.setIfInBounds_toArray, List.set_cons_zero, List.set_cons_succ, i64_w, i32_w]; rfl)))
    | (refine o_one rfl ?_)
    | (refine o_fork2 rfl rfl ?_ ?_)
    | (refine s_off (a' := ?_) rfl (by rfl) hS ?_ ?_; rotate_left; (focus (simp only [Act.put, List.setIfInBounds_toArray, List.set_cons_zero, List.set_cons_succ, i64_w, i32_w]; rfl))))
  refine o_done ?_
  obtain ⟨hB, i0, i1, i2⟩ := hS
  have c0 := i0.c0; have d0 := i0.c1; have c1 := i1.c0; have d1 := i1.c1; have c2 := i2.c0; have d2 := i2.c1; 
  have f0 := i0.f0 0; have e0 := i0.f0 1
  have f1 := i1.f0 0; have e1 := i1.f0 1
  have f2 := i2.f0 0; have e2 := i2.f0 1
  go_wp2_with (go_at_call 39; refine (cmp_any _ _ _ _ _ _ (by decide) (by assumption) (by assumption) (by assumption) (by assumption)).mono ?_; rintro e w3 ⟨rfl, hb⟩; replace hB := below_call hB hb; replace i0 := IB.below i0 hb; have c0 := i0.c0; have d0 := i0.c1; have f0 := i0.f0 0; have e0 := i0.f0 1; replace i1 := IB.below i1 hb; have c1 := i1.c0; have d1 := i1.c1; have f1 := i1.f0 0; have e1 := i1.f0 1; replace i2 := IB.below i2 hb; have c2 := i2.c0; have d2 := i2.c1; have f2 := i2.f0 0; have e2 := i2.f0 1; clear hb)
  refine bodyPost_ret (v := .agg #[.int .i64 ((cmpF 13 p q r s).1), .int .i64 ((cmpF 13 p q r s).2)]) ?_ rfl ⟨rfl, ?_⟩
  · have k0 := ((i2.set0 ((cmpF 13 p q r s).1)).set1 ((cmpF 13 p q r s).2)).c0
    have k1 := ((i2.set0 ((cmpF 13 p q r s).1)).set1 ((cmpF 13 p q r s).2)).c1
    simp [results, Try.results16, go_sem, k0, k1]
  · exact below_set (below_set hB (by omega) _) (by omega) _
theorem do_14 (a b c d p q r s : Int) (w : World) (hpq : fixP a b = (p, q)) (hrs : fixP c d = (r, s)) (h1 : emptyB p q = false) (h2 : emptyB r s = false) (b0 : -2147483648 ≤ p) (b1 : p ≤ 2147483647) (b2 : -2147483648 ≤ q) (b3 : q ≤ 2147483647) (b4 : -2147483648 ≤ r) (b5 : r ≤ 2147483647) (b6 : -2147483648 ≤ s) (b7 : s ≤ 2147483647) (h3 : p ≤ q) (h4 : r ≤ s) (h5 : Fixed p q) (h6 : Fixed r s) :
    Calls Try.prog 16 #[.int .i64 14, .agg #[.int .i64 a, .int .i64 b], .agg #[.int .i64 c, .int .i64 d]] w fun e w' => e = .returned (.agg #[.int .i64 (cmpF 14 p q r s).1, .int .i64 (cmpF 14 p q r s).2]) ∧ Below w.heap.size w w' := by
  have Hpq := Lib.hid hpq; have Hrs := Lib.hid hrs; clear hpq hrs
  go_enter Try.func16, Try.ntmps16
  go_wp2_with fail
  refine o_start (S := (fun w' => Below w.heap.size w w' ∧ IB w' (w.heap.size) (a) (b) ∧ IB w' (w.heap.size + 1) (c) (d) ∧ IB w' (w.heap.size + 2) (0) (0))) (ds := [4, 5]) (.cons 0 1 (.cons 2 1 (.cons 1 2 (.cons 3 2 (.cons 4 3 (.cons 5 3 .nil)))))) (by kernel_rfl) (by kernel_rfl) (fun _ _ d _ _ h => by cases d <;> exact h) ⟨((((Below.refl _ _).alloc (Nat.le_refl _) _).alloc (by simp) _).alloc (by simp; omega) _).drew, (((IB.new w a b).alloc _).alloc _).drew, ((IB.at (by simp) c d).alloc _).drew, (IB.at (by simp) 0 0).drew⟩ (fun w1 hS => ?_)
  repeat' (first
    | (refine o_off (a' := ?_) rfl rfl (by rfl) ?_ ?_; rotate_left; (focus (simp only [Act.put, List.setIfInBounds_toArray, List.set_cons_zero, List.set_cons_succ, i64_w, i32_w]; rfl)))
    | (refine o_pure (v := ?_) (a' := ?_) rfl rfl (by rfl) ?_ ?_ ?_; rotate_left 2; (focus (intro w'; go_simp; with_reducible rfl)); (focus (simp only [Act.put, List.setIfInBounds_toArray, List.set_cons_zero, List.set_cons_succ, i64_w, i32_w]; rfl)))
    | (refine o_loadoff (a' := ?_) rfl rfl (by rfl) hS ?_ ?_; rotate_left; (focus (simp only [Act.put, List.setIfInBounds_toArray, List.set_cons_zero, List.set_cons_succ, i64_w, i32_w]; rfl)))
    | (refine o_load (v := ?_) (a' := ?_) rfl rfl (by rfl) hS ?_ ?_ ?_; rotate_left 2; (focus (rintro w' ⟨_, i0, i1, i2⟩; have c0 := i0.c0; have d0 := i0.c1; have c1 := i1.c0; have d1 := i1.c1; have c2 := i2.c0; have d2 := i2.c1; go_simp; with_reducible rfl)); (focus (simp only [Act.put, List.setIfInBounds_toArray, List.set_cons_zero, List.set_cons_succ, i64_w, i32_w]; rfl)))
    | (refine o_one rfl ?_)
    | (refine o_fork2 rfl rfl ?_ ?_)
    | (refine s_off (a' := ?_) rfl (by rfl) hS ?_ ?_; rotate_left; (focus (simp only [Act.put, List.setIfInBounds_toArray, List.set_cons_zero, List.set_cons_succ, i64_w, i32_w]; rfl)))
    | (refine s_call (f := 33) (a' := ?_) rfl (by rfl) rfl Try.func33 (by kernel_rfl) rfl (fix_as Hpq.out _) (by (try simp only [List.map_toArray, List.map_cons, List.map_nil]); first | done | rfl) (fun w' hb => ⟨below_call hS.1 hb, IB.below hS.2.1 hb, IB.below hS.2.2.1 hb, IB.below hS.2.2.2 hb⟩) ?_ ?_; rotate_left; (focus (simp only [Act.put, List.setIfInBounds_toArray, List.set_cons_zero, List.set_cons_succ, i64_w, i32_w]; rfl)); clear hS; intro w1 hb hS; clear hb)
    | (refine s_call (f := 33) (a' := ?_) rfl (by rfl) rfl Try.func33 (by kernel_rfl) rfl (fix_as Hrs.out _) (by (try simp only [List.map_toArray, List.map_cons, List.map_nil]); first | done | rfl) (fun w' hb => ⟨below_call hS.1 hb, IB.below hS.2.1 hb, IB.below hS.2.2.1 hb, IB.below hS.2.2.2 hb⟩) ?_ ?_; rotate_left; (focus (simp only [Act.put, List.setIfInBounds_toArray, List.set_cons_zero, List.set_cons_succ, i64_w, i32_w]; rfl)); clear hS; intro w1 hb hS; clear hb))
  obtain ⟨hB, i0, i1, i2⟩ := hS
  have c0 := i0.c0; have d0 := i0.c1; have c1 := i1.c0; have d1 := i1.c1; have c2 := i2.c0; have d2 := i2.c1; 
  have f0 := i0.f0 0; have e0 := i0.f0 1
  have f1 := i1.f0 0; have e1 := i1.f0 1
  have f2 := i2.f0 0; have e2 := i2.f0 1
  (refine o_store (w1 := ?_) rfl rfl (by rfl) ?_ ?_; rotate_left; (focus (go_simp; rfl)))
  (refine o_store (w1 := ?_) rfl rfl (by rfl) ?_ ?_; rotate_left; (focus (go_simp; rfl)))
  refine o_close (S' := (fun w' => Below w.heap.size w w' ∧ IB w' (w.heap.size) (p) (q) ∧ IB w' (w.heap.size + 1) (r) (s) ∧ IB w' (w.heap.size + 2) (0) (0))) ⟨below_set (below_set (below_set (below_set hB (by omega) _) (by omega) _) (by omega) _) (by omega) _, ((((i0.set0 p).set1 q).far (by omega) _).far (by omega) _), (((((i1.far (by omega) _).far (by omega) _).set0 r)).set1 s), ((((i2.far (by omega) _).far (by omega) _).far (by omega) _).far (by omega) _)⟩ (fun w2 hS => ?_)
  clear i0 c0 d0 f0 e0 i1 c1 d1 f1 e1 i2 c2 d2 f2 e2 hB
  obtain ⟨hB, i0, i1, i2⟩ := hS
  have c0 := i0.c0; have d0 := i0.c1; have c1 := i1.c0; have d1 := i1.c1; have c2 := i2.c0; have d2 := i2.c1; 
  have f0 := i0.f0 0; have e0 := i0.f0 1
  have f1 := i1.f0 0; have e1 := i1.f0 1
  have f2 := i2.f0 0; have e2 := i2.f0 1
  go_wp2_with (go_at_call 34; refine (empty_any _ _ _).mono ?_; rintro e w3 ⟨rfl, hb⟩; replace hB := below_call hB hb; replace i0 := IB.below i0 hb; have c0 := i0.c0; have d0 := i0.c1; have f0 := i0.f0 0; have e0 := i0.f0 1; replace i1 := IB.below i1 hb; have c1 := i1.c0; have d1 := i1.c1; have f1 := i1.f0 0; have e1 := i1.f0 1; replace i2 := IB.below i2 hb; have c2 := i2.c0; have d2 := i2.c1; have f2 := i2.f0 0; have e2 := i2.f0 1; clear hb)
  refine o_start (S := (fun w' => Below w.heap.size w w' ∧ IB w' (w.heap.size) (p) (q) ∧ IB w' (w.heap.size + 1) (r) (s) ∧ IB w' (w.heap.size + 2) (0) (0))) (ds := []) (.cons 0 0 (.cons 1 1 (.cons 2 0 (.cons 3 1 (.cons 4 0 (.cons 5 1 (.cons 6 0 (.cons 7 1 (.cons 8 0 (.cons 9 0 (.cons 10 0 (.cons 11 0 .nil)))))))))))) (by kernel_rfl) (by kernel_rfl) (fun _ _ d _ _ h => by cases d <;> exact h) ⟨hB.drew, i0.drew, i1.drew, i2.drew⟩ (fun w1 hS => ?_)
  clear hB i0 c0 d0 f0 e0 i1 c1 d1 f1 e1 i2 c2 d2 f2 e2
  repeat' (first
    | (refine o_off (a' := ?_) rfl rfl (by rfl) ?_ ?_; rotate_left; (focus (simp only [Act.put, List.setIfInBounds_toArray, List.set_cons_zero, List.set_cons_succ, i64_w, i32_w]; rfl)))
    | (refine o_pure (v := ?_) (a' := ?_) rfl rfl (by rfl) ?_ ?_ ?_; rotate_left 2; (focus (intro w'; go_simp; with_reducible rfl)); (focus (simp only [Act.put, List.setIfInBounds_toArray, List.set_cons_zero, List.set_cons_succ, i64_w, i32_w]; rfl)))
    | (refine o_loadoff (a' := ?_) rfl rfl (by rfl) hS ?_ ?_; rotate_left; (focus (simp only [Act.put, List.setIfInBounds_toArray, List.set_cons_zero, List.set_cons_succ, i64_w, i32_w]; rfl)))
    | (refine o_load (v := ?_) (a' := ?_) rfl rfl (by rfl) hS ?_ ?_ ?_; rotate_left 2; (focus (rintro w' ⟨_, i0, i1, i2⟩; have c0 := i0.c0; have d0 := i0.c1; have c1 := i1.c0; have d1 := i1.c1; have c2 := i2.c0; have d2 := i2.c1; go_simp; with_reducible rfl)); (focus (simp only [Act.put, List.setIfInBounds_toArray, List.set_cons_zero, List.set_cons_succ, i64_w, i32_w]; rfl)))
    | (refine o_one rfl ?_)
    | (refine o_fork2 rfl rfl ?_ ?_)
    | (refine s_off (a' := ?_) rfl (by rfl) hS ?_ ?_; rotate_left; (focus (simp only [Act.put, List.setIfInBounds_toArray, List.set_cons_zero, List.set_cons_succ, i64_w, i32_w]; rfl))))
  refine o_done ?_
  obtain ⟨hB, i0, i1, i2⟩ := hS
  have c0 := i0.c0; have d0 := i0.c1; have c1 := i1.c0; have d1 := i1.c1; have c2 := i2.c0; have d2 := i2.c1; 
  have f0 := i0.f0 0; have e0 := i0.f0 1
  have f1 := i1.f0 0; have e1 := i1.f0 1
  have f2 := i2.f0 0; have e2 := i2.f0 1
  go_wp2_with (go_at_call 39; refine (cmp_any _ _ _ _ _ _ (by decide) (by assumption) (by assumption) (by assumption) (by assumption)).mono ?_; rintro e w3 ⟨rfl, hb⟩; replace hB := below_call hB hb; replace i0 := IB.below i0 hb; have c0 := i0.c0; have d0 := i0.c1; have f0 := i0.f0 0; have e0 := i0.f0 1; replace i1 := IB.below i1 hb; have c1 := i1.c0; have d1 := i1.c1; have f1 := i1.f0 0; have e1 := i1.f0 1; replace i2 := IB.below i2 hb; have c2 := i2.c0; have d2 := i2.c1; have f2 := i2.f0 0; have e2 := i2.f0 1; clear hb)
  refine bodyPost_ret (v := .agg #[.int .i64 ((cmpF 14 p q r s).1), .int .i64 ((cmpF 14 p q r s).2)]) ?_ rfl ⟨rfl, ?_⟩
  · have k0 := ((i2.set0 ((cmpF 14 p q r s).1)).set1 ((cmpF 14 p q r s).2)).c0
    have k1 := ((i2.set0 ((cmpF 14 p q r s).1)).set1 ((cmpF 14 p q r s).2)).c1
    simp [results, Try.results16, go_sem, k0, k1]
  · exact below_set (below_set hB (by omega) _) (by omega) _
theorem do_other (op a b c d p q r s : Int) (w : World) (hpq : fixP a b = (p, q)) (hrs : fixP c d = (r, s)) (h1 : emptyB p q = false) (h2 : emptyB r s = false) (b0 : -2147483648 ≤ p) (b1 : p ≤ 2147483647) (b2 : -2147483648 ≤ q) (b3 : q ≤ 2147483647) (b4 : -2147483648 ≤ r) (b5 : r ≤ 2147483647) (b6 : -2147483648 ≤ s) (b7 : s ≤ 2147483647) (o1 : (op == 1) = false) (o2 : (op == 2) = false) (o3 : (op == 3) = false) (o4 : (op == 4) = false) (o5 : (op == 5) = false) (o6 : (op == 6) = false) (o7 : (op == 7) = false) (o8 : (op == 8) = false) (o9 : (op == 9) = false) (o10 : (op == 10) = false) (o11 : (op == 11) = false) (o12 : (op == 12) = false) (o13 : (op == 13) = false) (o14 : (op == 14) = false) :
    Calls Try.prog 16 #[.int .i64 op, .agg #[.int .i64 a, .int .i64 b], .agg #[.int .i64 c, .int .i64 d]] w fun e w' => e = .returned (.agg #[.int .i64 (-2147483648), .int .i64 2147483647]) ∧ Below w.heap.size w w' := by
  have Hpq := Lib.hid hpq; have Hrs := Lib.hid hrs; clear hpq hrs
  go_enter Try.func16, Try.ntmps16
  go_wp2_with fail
  refine o_start (S := (fun w' => Below w.heap.size w w' ∧ IB w' (w.heap.size) (a) (b) ∧ IB w' (w.heap.size + 1) (c) (d) ∧ IB w' (w.heap.size + 2) (0) (0))) (ds := [4, 5]) (.cons 0 1 (.cons 2 1 (.cons 1 2 (.cons 3 2 (.cons 4 3 (.cons 5 3 .nil)))))) (by kernel_rfl) (by kernel_rfl) (fun _ _ d _ _ h => by cases d <;> exact h) ⟨((((Below.refl _ _).alloc (Nat.le_refl _) _).alloc (by simp) _).alloc (by simp; omega) _).drew, (((IB.new w a b).alloc _).alloc _).drew, ((IB.at (by simp) c d).alloc _).drew, (IB.at (by simp) 0 0).drew⟩ (fun w1 hS => ?_)
  repeat' (first
    | (refine o_off (a' := ?_) rfl rfl (by rfl) ?_ ?_; rotate_left; (focus (simp only [Act.put, List.setIfInBounds_toArray, List.set_cons_zero, List.set_cons_succ, i64_w, i32_w]; rfl)))
    | (refine o_pure (v := ?_) (a' := ?_) rfl rfl (by rfl) ?_ ?_ ?_; rotate_left 2; (focus (intro w'; go_simp; with_reducible rfl)); (focus (simp only [Act.put, List.setIfInBounds_toArray, List.set_cons_zero, List.set_cons_succ, i64_w, i32_w]; rfl)))
    | (refine o_loadoff (a' := ?_) rfl rfl (by rfl) hS ?_ ?_; rotate_left; (focus (simp only [Act.put, List.setIfInBounds_toArray, List.set_cons_zero, List.set_cons_succ, i64_w, i32_w]; rfl)))
    | (refine o_load (v := ?_) (a' := ?_) rfl rfl (by rfl) hS ?_ ?_ ?_; rotate_left 2; (focus (rintro w' ⟨_, i0, i1, i2⟩; have c0 := i0.c0; have d0 := i0.c1; have c1 := i1.c0; have d1 := i1.c1; have c2 := i2.c0; have d2 := i2.c1; go_simp; with_reducible rfl)); (focus (simp only [Act.put, List.setIfInBounds_toArray, List.set_cons_zero, List.set_cons_succ, i64_w, i32_w]; rfl)))
    | (refine o_one rfl ?_)
    | (refine o_fork2 rfl rfl ?_ ?_)
    | (refine s_off (a' := ?_) rfl (by rfl) hS ?_ ?_; rotate_left; (focus (simp only [Act.put, List.setIfInBounds_toArray, List.set_cons_zero, List.set_cons_succ, i64_w, i32_w]; rfl)))
    | (refine s_call (f := 33) (a' := ?_) rfl (by rfl) rfl Try.func33 (by kernel_rfl) rfl (fix_as Hpq.out _) (by (try simp only [List.map_toArray, List.map_cons, List.map_nil]); first | done | rfl) (fun w' hb => ⟨below_call hS.1 hb, IB.below hS.2.1 hb, IB.below hS.2.2.1 hb, IB.below hS.2.2.2 hb⟩) ?_ ?_; rotate_left; (focus (simp only [Act.put, List.setIfInBounds_toArray, List.set_cons_zero, List.set_cons_succ, i64_w, i32_w]; rfl)); clear hS; intro w1 hb hS; clear hb)
    | (refine s_call (f := 33) (a' := ?_) rfl (by rfl) rfl Try.func33 (by kernel_rfl) rfl (fix_as Hrs.out _) (by (try simp only [List.map_toArray, List.map_cons, List.map_nil]); first | done | rfl) (fun w' hb => ⟨below_call hS.1 hb, IB.below hS.2.1 hb, IB.below hS.2.2.1 hb, IB.below hS.2.2.2 hb⟩) ?_ ?_; rotate_left; (focus (simp only [Act.put, List.setIfInBounds_toArray, List.set_cons_zero, List.set_cons_succ, i64_w, i32_w]; rfl)); clear hS; intro w1 hb hS; clear hb))
  obtain ⟨hB, i0, i1, i2⟩ := hS
  have c0 := i0.c0; have d0 := i0.c1; have c1 := i1.c0; have d1 := i1.c1; have c2 := i2.c0; have d2 := i2.c1; 
  have f0 := i0.f0 0; have e0 := i0.f0 1
  have f1 := i1.f0 0; have e1 := i1.f0 1
  have f2 := i2.f0 0; have e2 := i2.f0 1
  (refine o_store (w1 := ?_) rfl rfl (by rfl) ?_ ?_; rotate_left; (focus (go_simp; rfl)))
  (refine o_store (w1 := ?_) rfl rfl (by rfl) ?_ ?_; rotate_left; (focus (go_simp; rfl)))
  refine o_close (S' := (fun w' => Below w.heap.size w w' ∧ IB w' (w.heap.size) (p) (q) ∧ IB w' (w.heap.size + 1) (r) (s) ∧ IB w' (w.heap.size + 2) (0) (0))) ⟨below_set (below_set (below_set (below_set hB (by omega) _) (by omega) _) (by omega) _) (by omega) _, ((((i0.set0 p).set1 q).far (by omega) _).far (by omega) _), (((((i1.far (by omega) _).far (by omega) _).set0 r)).set1 s), ((((i2.far (by omega) _).far (by omega) _).far (by omega) _).far (by omega) _)⟩ (fun w2 hS => ?_)
  clear i0 c0 d0 f0 e0 i1 c1 d1 f1 e1 i2 c2 d2 f2 e2 hB
  obtain ⟨hB, i0, i1, i2⟩ := hS
  have c0 := i0.c0; have d0 := i0.c1; have c1 := i1.c0; have d1 := i1.c1; have c2 := i2.c0; have d2 := i2.c1; 
  have f0 := i0.f0 0; have e0 := i0.f0 1
  have f1 := i1.f0 0; have e1 := i1.f0 1
  have f2 := i2.f0 0; have e2 := i2.f0 1
  go_wp2_with (go_at_call 34; refine (empty_any _ _ _).mono ?_; rintro e w3 ⟨rfl, hb⟩; replace hB := below_call hB hb; replace i0 := IB.below i0 hb; have c0 := i0.c0; have d0 := i0.c1; have f0 := i0.f0 0; have e0 := i0.f0 1; replace i1 := IB.below i1 hb; have c1 := i1.c0; have d1 := i1.c1; have f1 := i1.f0 0; have e1 := i1.f0 1; replace i2 := IB.below i2 hb; have c2 := i2.c0; have d2 := i2.c1; have f2 := i2.f0 0; have e2 := i2.f0 1; clear hb)
  refine o_start (S := (fun w' => Below w.heap.size w w' ∧ IB w' (w.heap.size) (p) (q) ∧ IB w' (w.heap.size + 1) (r) (s) ∧ IB w' (w.heap.size + 2) (0) (0))) (ds := []) (.cons 0 0 (.cons 1 1 (.cons 2 0 (.cons 3 1 (.cons 4 0 (.cons 5 1 (.cons 6 0 (.cons 7 1 (.cons 8 0 (.cons 9 0 (.cons 10 0 (.cons 11 0 .nil)))))))))))) (by kernel_rfl) (by kernel_rfl) (fun _ _ d _ _ h => by cases d <;> exact h) ⟨hB.drew, i0.drew, i1.drew, i2.drew⟩ (fun w1 hS => ?_)
  clear hB i0 c0 d0 f0 e0 i1 c1 d1 f1 e1 i2 c2 d2 f2 e2
  repeat' (first
    | (refine o_off (a' := ?_) rfl rfl (by rfl) ?_ ?_; rotate_left; (focus (simp only [Act.put, List.setIfInBounds_toArray, List.set_cons_zero, List.set_cons_succ, i64_w, i32_w]; rfl)))
    | (refine o_pure (v := ?_) (a' := ?_) rfl rfl (by rfl) ?_ ?_ ?_; rotate_left 2; (focus (intro w'; go_simp; with_reducible rfl)); (focus (simp only [Act.put, List.setIfInBounds_toArray, List.set_cons_zero, List.set_cons_succ, i64_w, i32_w]; rfl)))
    | (refine o_loadoff (a' := ?_) rfl rfl (by rfl) hS ?_ ?_; rotate_left; (focus (simp only [Act.put, List.setIfInBounds_toArray, List.set_cons_zero, List.set_cons_succ, i64_w, i32_w]; rfl)))
    | (refine o_load (v := ?_) (a' := ?_) rfl rfl (by rfl) hS ?_ ?_ ?_; rotate_left 2; (focus (rintro w' ⟨_, i0, i1, i2⟩; have c0 := i0.c0; have d0 := i0.c1; have c1 := i1.c0; have d1 := i1.c1; have c2 := i2.c0; have d2 := i2.c1; go_simp; with_reducible rfl)); (focus (simp only [Act.put, List.setIfInBounds_toArray, List.set_cons_zero, List.set_cons_succ, i64_w, i32_w]; rfl)))
    | (refine o_one rfl ?_)
    | (refine o_fork2 rfl rfl ?_ ?_)
    | (refine s_off (a' := ?_) rfl (by rfl) hS ?_ ?_; rotate_left; (focus (simp only [Act.put, List.setIfInBounds_toArray, List.set_cons_zero, List.set_cons_succ, i64_w, i32_w]; rfl))))
  refine o_done ?_
  obtain ⟨hB, i0, i1, i2⟩ := hS
  have c0 := i0.c0; have d0 := i0.c1; have c1 := i1.c0; have d1 := i1.c1; have c2 := i2.c0; have d2 := i2.c1; 
  have f0 := i0.f0 0; have e0 := i0.f0 1
  have f1 := i1.f0 0; have e1 := i1.f0 1
  have f2 := i2.f0 0; have e2 := i2.f0 1
  go_wp2_with (first | (go_at_call 10; refine (all_any _).mono ?_; rintro e w3 ⟨rfl, hb⟩; replace hB := below_call hB hb; replace i0 := IB.below i0 hb; have c0 := i0.c0; have d0 := i0.c1; have f0 := i0.f0 0; have e0 := i0.f0 1; replace i1 := IB.below i1 hb; have c1 := i1.c0; have d1 := i1.c1; have f1 := i1.f0 0; have e1 := i1.f0 1; replace i2 := IB.below i2 hb; have c2 := i2.c0; have d2 := i2.c1; have f2 := i2.f0 0; have e2 := i2.f0 1; clear hb))
  refine bodyPost_ret (v := .agg #[.int .i64 (-2147483648), .int .i64 (2147483647)]) ?_ rfl ⟨rfl, ?_⟩
  · have k0 := ((i2.set0 (-2147483648)).set1 (2147483647)).c0
    have k1 := ((i2.set0 (-2147483648)).set1 (2147483647)).c1
    simp [results, Try.results16, go_sem, k0, k1]
  · exact below_set (below_set hB (by omega) _) (by omega) _
end Go.Proofs.Ytdooadomkifbbaa
