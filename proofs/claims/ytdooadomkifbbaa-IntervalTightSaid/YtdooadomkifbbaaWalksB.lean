/-
  The walks of Has and Leq of the program's text. No condition.
-/
import Derived.Test.YtdooadomkifbbaaWalksA
namespace Go.Proofs.Ytdooadomkifbbaa
open Go.RowKit
open Go.Proofs.YtdooadomkifbbaaW.PrintLast
attribute [local go_sem high] eqA23
set_option maxHeartbeats 2000000
set_option maxRecDepth 100000
set_option linter.unusedSimpArgs false
set_option linter.unusedVariables false
theorem fix_as {a b p q : Int} (h : fixP a b = (p, q)) (w : World) : Calls Try.prog 33 #[.agg #[.int .i64 a, .int .i64 b]] w fun e w' => e = .returned (.agg #[.int .i64 p, .int .i64 q]) ∧ Below w.heap.size w w' := by
  have := fix_any a b w
  rwa [h] at this
theorem form_as {a b p q : Int} (h : fixP a b = (p, q)) (w : World) : Calls Try.prog 46 #[.agg #[.int .i64 a, .int .i64 b]] w fun e w' => e = .returned (.agg #[.int .i64 p, .int .i64 q]) ∧ Below w.heap.size w w' := by
  have := form_any a b w
  rwa [h] at this
theorem leq_1 (a b c d p q r s : Int) (w : World) (hpq : fixP a b = (p, q)) (hrs : fixP c d = (r, s)) (h1 : emptyB p q = true) :
    Calls Try.prog 21 #[.agg #[.int .i64 a, .int .i64 b], .agg #[.int .i64 c, .int .i64 d]] w fun e w' => e = .returned (.bool true) ∧ Below w.heap.size w w' := by
  have Hpq := Lib.hid hpq; have Hrs := Lib.hid hrs; clear hpq hrs
  go_enter Try.func21, Try.ntmps21
  go_wp2_with fail
  refine o_start (S := (fun w' => Below w.heap.size w w' ∧ IB w' (w.heap.size) (a) (b) ∧ IB w' (w.heap.size + 1) (c) (d))) (ds := [4, 5]) (.cons 0 1 (.cons 2 1 (.cons 1 2 (.cons 3 2 (.cons 4 3 (.cons 5 3 .nil)))))) (by kernel_rfl) (by kernel_rfl) (fun _ _ d _ _ h => by cases d <;> exact h) ⟨(((Below.refl _ _).alloc (Nat.le_refl _) _).alloc (by simp) _).drew, ((IB.new w a b).alloc _).drew, (IB.at (by simp) c d).drew⟩ (fun w1 hS => ?_)
  repeat' (first
    | (refine o_off (a' := ?_) rfl rfl (by rfl) ?_ ?_; rotate_left; (focus (simp only [Act.put, List.setIfInBounds_toArray, List.set_cons_zero, List.set_cons_succ, i64_w, i32_w]; rfl)))
    | (refine o_pure (v := ?_) (a' := ?_) rfl rfl (by rfl) ?_ ?_ ?_; rotate_left 2; (focus (intro w'; go_simp; with_reducible rfl)); (focus (simp only [Act.put, List.setIfInBounds_toArray, List.set_cons_zero, List.set_cons_succ, i64_w, i32_w]; rfl)))
    | (refine o_loadoff (a' := ?_) rfl rfl (by rfl) hS ?_ ?_; rotate_left; (focus (simp only [Act.put, List.setIfInBounds_toArray, List.set_cons_zero, List.set_cons_succ, i64_w, i32_w]; rfl)))
    | (refine o_load (v := ?_) (a' := ?_) rfl rfl (by rfl) hS ?_ ?_ ?_; rotate_left 2; (focus (rintro w' ⟨_, i0, i1⟩; have c0 := i0.c0; have d0 := i0.c1; have c1 := i1.c0; have d1 := i1.c1; go_simp; with_reducible rfl)); (focus (simp only [Act.put, List.setIfInBounds_toArray, List.set_cons_zero, List.set_cons_succ, i64_w, i32_w]; rfl)))
    | (refine o_one rfl ?_)
    | (refine o_fork2 rfl rfl ?_ ?_)
    | (refine s_off (a' := ?_) rfl (by rfl) hS ?_ ?_; rotate_left; (focus (simp only [Act.put, List.setIfInBounds_toArray, List.set_cons_zero, List.set_cons_succ, i64_w, i32_w]; rfl)))
    | (refine s_call (f := 33) (a' := ?_) rfl (by rfl) rfl Try.func33 (by kernel_rfl) rfl (fix_as Hpq.out _) (by (try simp only [List.map_toArray, List.map_cons, List.map_nil]); first | done | rfl) (fun w' hb => ⟨below_call hS.1 hb, IB.below hS.2.1 hb, IB.below hS.2.2 hb⟩) ?_ ?_; rotate_left; (focus (simp only [Act.put, List.setIfInBounds_toArray, List.set_cons_zero, List.set_cons_succ, i64_w, i32_w]; rfl)); clear hS; intro w1 hb hS; clear hb)
    | (refine s_call (f := 33) (a' := ?_) rfl (by rfl) rfl Try.func33 (by kernel_rfl) rfl (fix_as Hrs.out _) (by (try simp only [List.map_toArray, List.map_cons, List.map_nil]); first | done | rfl) (fun w' hb => ⟨below_call hS.1 hb, IB.below hS.2.1 hb, IB.below hS.2.2 hb⟩) ?_ ?_; rotate_left; (focus (simp only [Act.put, List.setIfInBounds_toArray, List.set_cons_zero, List.set_cons_succ, i64_w, i32_w]; rfl)); clear hS; intro w1 hb hS; clear hb))
  obtain ⟨hB, i0, i1⟩ := hS
  have c0 := i0.c0; have d0 := i0.c1; have c1 := i1.c0; have d1 := i1.c1; 
  have f0 := i0.f0 0; have e0 := i0.f0 1
  have f1 := i1.f0 0; have e1 := i1.f0 1
  (refine o_store (w1 := ?_) rfl rfl (by rfl) ?_ ?_; rotate_left; (focus (go_simp; rfl)))
  (refine o_store (w1 := ?_) rfl rfl (by rfl) ?_ ?_; rotate_left; (focus (go_simp; rfl)))
  refine o_close (S' := (fun w' => Below w.heap.size w w' ∧ IB w' (w.heap.size) (p) (q) ∧ IB w' (w.heap.size + 1) (r) (s))) ⟨below_set (below_set (below_set (below_set hB (by omega) _) (by omega) _) (by omega) _) (by omega) _, ((((i0.set0 p).set1 q).far (by omega) _).far (by omega) _), (((((i1.far (by omega) _).far (by omega) _).set0 r)).set1 s)⟩ (fun w2 hS => ?_)
  clear i0 c0 d0 f0 e0 i1 c1 d1 f1 e1 hB
  obtain ⟨hB, i0, i1⟩ := hS
  have c0 := i0.c0; have d0 := i0.c1; have c1 := i1.c0; have d1 := i1.c1; 
  have f0 := i0.f0 0; have e0 := i0.f0 1
  have f1 := i1.f0 0; have e1 := i1.f0 1
  go_wp2_with (go_at_call 34; refine (empty_any _ _ _).mono ?_; rintro e w3 ⟨rfl, hb⟩; replace hB := below_call hB hb; replace i0 := IB.below i0 hb; have c0 := i0.c0; have d0 := i0.c1; have f0 := i0.f0 0; have e0 := i0.f0 1; replace i1 := IB.below i1 hb; have c1 := i1.c0; have d1 := i1.c1; have f1 := i1.f0 0; have e1 := i1.f0 1; clear hb)
  go_ret
  exact ⟨rfl, hB⟩
theorem leq_2 (a b c d p q r s : Int) (w : World) (hpq : fixP a b = (p, q)) (hrs : fixP c d = (r, s)) (h1 : emptyB p q = false) (h2 : emptyB r s = true) :
    Calls Try.prog 21 #[.agg #[.int .i64 a, .int .i64 b], .agg #[.int .i64 c, .int .i64 d]] w fun e w' => e = .returned (.bool false) ∧ Below w.heap.size w w' := by
  have Hpq := Lib.hid hpq; have Hrs := Lib.hid hrs; clear hpq hrs
  go_enter Try.func21, Try.ntmps21
  go_wp2_with fail
  refine o_start (S := (fun w' => Below w.heap.size w w' ∧ IB w' (w.heap.size) (a) (b) ∧ IB w' (w.heap.size + 1) (c) (d))) (ds := [4, 5]) (.cons 0 1 (.cons 2 1 (.cons 1 2 (.cons 3 2 (.cons 4 3 (.cons 5 3 .nil)))))) (by kernel_rfl) (by kernel_rfl) (fun _ _ d _ _ h => by cases d <;> exact h) ⟨(((Below.refl _ _).alloc (Nat.le_refl _) _).alloc (by simp) _).drew, ((IB.new w a b).alloc _).drew, (IB.at (by simp) c d).drew⟩ (fun w1 hS => ?_)
  repeat' (first
    | (refine o_off (a' := ?_) rfl rfl (by rfl) ?_ ?_; rotate_left; (focus (simp only [Act.put, List.setIfInBounds_toArray, List.set_cons_zero, List.set_cons_succ, i64_w, i32_w]; rfl)))
    | (refine o_pure (v := ?_) (a' := ?_) rfl rfl (by rfl) ?_ ?_ ?_; rotate_left 2; (focus (intro w'; go_simp; with_reducible rfl)); (focus (simp only [Act.put, List.setIfInBounds_toArray, List.set_cons_zero, List.set_cons_succ, i64_w, i32_w]; rfl)))
    | (refine o_loadoff (a' := ?_) rfl rfl (by rfl) hS ?_ ?_; rotate_left; (focus (simp only [Act.put, List.setIfInBounds_toArray, List.set_cons_zero, List.set_cons_succ, i64_w, i32_w]; rfl)))
    | (refine o_load (v := ?_) (a' := ?_) rfl rfl (by rfl) hS ?_ ?_ ?_; rotate_left 2; (focus (rintro w' ⟨_, i0, i1⟩; have c0 := i0.c0; have d0 := i0.c1; have c1 := i1.c0; have d1 := i1.c1; go_simp; with_reducible rfl)); (focus (simp only [Act.put, List.setIfInBounds_toArray, List.set_cons_zero, List.set_cons_succ, i64_w, i32_w]; rfl)))
    | (refine o_one rfl ?_)
    | (refine o_fork2 rfl rfl ?_ ?_)
    | (refine s_off (a' := ?_) rfl (by rfl) hS ?_ ?_; rotate_left; (focus (simp only [Act.put, List.setIfInBounds_toArray, List.set_cons_zero, List.set_cons_succ, i64_w, i32_w]; rfl)))
    | (refine s_call (f := 33) (a' := ?_) rfl (by rfl) rfl Try.func33 (by kernel_rfl) rfl (fix_as Hpq.out _) (by (try simp only [List.map_toArray, List.map_cons, List.map_nil]); first | done | rfl) (fun w' hb => ⟨below_call hS.1 hb, IB.below hS.2.1 hb, IB.below hS.2.2 hb⟩) ?_ ?_; rotate_left; (focus (simp only [Act.put, List.setIfInBounds_toArray, List.set_cons_zero, List.set_cons_succ, i64_w, i32_w]; rfl)); clear hS; intro w1 hb hS; clear hb)
    | (refine s_call (f := 33) (a' := ?_) rfl (by rfl) rfl Try.func33 (by kernel_rfl) rfl (fix_as Hrs.out _) (by (try simp only [List.map_toArray, List.map_cons, List.map_nil]); first | done | rfl) (fun w' hb => ⟨below_call hS.1 hb, IB.below hS.2.1 hb, IB.below hS.2.2 hb⟩) ?_ ?_; rotate_left; (focus (simp only [Act.put, List.setIfInBounds_toArray, List.set_cons_zero, List.set_cons_succ, i64_w, i32_w]; rfl)); clear hS; intro w1 hb hS; clear hb))
  obtain ⟨hB, i0, i1⟩ := hS
  have c0 := i0.c0; have d0 := i0.c1; have c1 := i1.c0; have d1 := i1.c1; 
  have f0 := i0.f0 0; have e0 := i0.f0 1
  have f1 := i1.f0 0; have e1 := i1.f0 1
  (refine o_store (w1 := ?_) rfl rfl (by rfl) ?_ ?_; rotate_left; (focus (go_simp; rfl)))
  (refine o_store (w1 := ?_) rfl rfl (by rfl) ?_ ?_; rotate_left; (focus (go_simp; rfl)))
  refine o_close (S' := (fun w' => Below w.heap.size w w' ∧ IB w' (w.heap.size) (p) (q) ∧ IB w' (w.heap.size + 1) (r) (s))) ⟨below_set (below_set (below_set (below_set hB (by omega) _) (by omega) _) (by omega) _) (by omega) _, ((((i0.set0 p).set1 q).far (by omega) _).far (by omega) _), (((((i1.far (by omega) _).far (by omega) _).set0 r)).set1 s)⟩ (fun w2 hS => ?_)
  clear i0 c0 d0 f0 e0 i1 c1 d1 f1 e1 hB
  obtain ⟨hB, i0, i1⟩ := hS
  have c0 := i0.c0; have d0 := i0.c1; have c1 := i1.c0; have d1 := i1.c1; 
  have f0 := i0.f0 0; have e0 := i0.f0 1
  have f1 := i1.f0 0; have e1 := i1.f0 1
  go_wp2_with (go_at_call 34; refine (empty_any _ _ _).mono ?_; rintro e w3 ⟨rfl, hb⟩; replace hB := below_call hB hb; replace i0 := IB.below i0 hb; have c0 := i0.c0; have d0 := i0.c1; have f0 := i0.f0 0; have e0 := i0.f0 1; replace i1 := IB.below i1 hb; have c1 := i1.c0; have d1 := i1.c1; have f1 := i1.f0 0; have e1 := i1.f0 1; clear hb)
  go_ret
  exact ⟨rfl, hB⟩
theorem leq_3 (a b c d p q r s : Int) (w : World) (hpq : fixP a b = (p, q)) (hrs : fixP c d = (r, s)) (h1 : emptyB p q = false) (h2 : emptyB r s = false) (h3 : decide (r ≤ p) = false) :
    Calls Try.prog 21 #[.agg #[.int .i64 a, .int .i64 b], .agg #[.int .i64 c, .int .i64 d]] w fun e w' => e = .returned (.bool false) ∧ Below w.heap.size w w' := by
  have Hpq := Lib.hid hpq; have Hrs := Lib.hid hrs; clear hpq hrs
  go_enter Try.func21, Try.ntmps21
  go_wp2_with fail
  refine o_start (S := (fun w' => Below w.heap.size w w' ∧ IB w' (w.heap.size) (a) (b) ∧ IB w' (w.heap.size + 1) (c) (d))) (ds := [4, 5]) (.cons 0 1 (.cons 2 1 (.cons 1 2 (.cons 3 2 (.cons 4 3 (.cons 5 3 .nil)))))) (by kernel_rfl) (by kernel_rfl) (fun _ _ d _ _ h => by cases d <;> exact h) ⟨(((Below.refl _ _).alloc (Nat.le_refl _) _).alloc (by simp) _).drew, ((IB.new w a b).alloc _).drew, (IB.at (by simp) c d).drew⟩ (fun w1 hS => ?_)
  repeat' (first
    | (refine o_off (a' := ?_) rfl rfl (by rfl) ?_ ?_; rotate_left; (focus (simp only [Act.put, List.setIfInBounds_toArray, List.set_cons_zero, List.set_cons_succ, i64_w, i32_w]; rfl)))
    | (refine o_pure (v := ?_) (a' := ?_) rfl rfl (by rfl) ?_ ?_ ?_; rotate_left 2; (focus (intro w'; go_simp; with_reducible rfl)); (focus (simp only [Act.put, List.setIfInBounds_toArray, List.set_cons_zero, List.set_cons_succ, i64_w, i32_w]; rfl)))
    | (refine o_loadoff (a' := ?_) rfl rfl (by rfl) hS ?_ ?_; rotate_left; (focus (simp only [Act.put, List.setIfInBounds_toArray, List.set_cons_zero, List.set_cons_succ, i64_w, i32_w]; rfl)))
    | (refine o_load (v := ?_) (a' := ?_) rfl rfl (by rfl) hS ?_ ?_ ?_; rotate_left 2; (focus (rintro w' ⟨_, i0, i1⟩; have c0 := i0.c0; have d0 := i0.c1; have c1 := i1.c0; have d1 := i1.c1; go_simp; with_reducible rfl)); (focus (simp only [Act.put, List.setIfInBounds_toArray, List.set_cons_zero, List.set_cons_succ, i64_w, i32_w]; rfl)))
    | (refine o_one rfl ?_)
    | (refine o_fork2 rfl rfl ?_ ?_)
    | (refine s_off (a' := ?_) rfl (by rfl) hS ?_ ?_; rotate_left; (focus (simp only [Act.put, List.setIfInBounds_toArray, List.set_cons_zero, List.set_cons_succ, i64_w, i32_w]; rfl)))
    | (refine s_call (f := 33) (a' := ?_) rfl (by rfl) rfl Try.func33 (by kernel_rfl) rfl (fix_as Hpq.out _) (by (try simp only [List.map_toArray, List.map_cons, List.map_nil]); first | done | rfl) (fun w' hb => ⟨below_call hS.1 hb, IB.below hS.2.1 hb, IB.below hS.2.2 hb⟩) ?_ ?_; rotate_left; (focus (simp only [Act.put, List.setIfInBounds_toArray, List.set_cons_zero, List.set_cons_succ, i64_w, i32_w]; rfl)); clear hS; intro w1 hb hS; clear hb)
    | (refine s_call (f := 33) (a' := ?_) rfl (by rfl) rfl Try.func33 (by kernel_rfl) rfl (fix_as Hrs.out _) (by (try simp only [List.map_toArray, List.map_cons, List.map_nil]); first | done | rfl) (fun w' hb => ⟨below_call hS.1 hb, IB.below hS.2.1 hb, IB.below hS.2.2 hb⟩) ?_ ?_; rotate_left; (focus (simp only [Act.put, List.setIfInBounds_toArray, List.set_cons_zero, List.set_cons_succ, i64_w, i32_w]; rfl)); clear hS; intro w1 hb hS; clear hb))
  obtain ⟨hB, i0, i1⟩ := hS
  have c0 := i0.c0; have d0 := i0.c1; have c1 := i1.c0; have d1 := i1.c1; 
  have f0 := i0.f0 0; have e0 := i0.f0 1
  have f1 := i1.f0 0; have e1 := i1.f0 1
  (refine o_store (w1 := ?_) rfl rfl (by rfl) ?_ ?_; rotate_left; (focus (go_simp; rfl)))
  (refine o_store (w1 := ?_) rfl rfl (by rfl) ?_ ?_; rotate_left; (focus (go_simp; rfl)))
  refine o_close (S' := (fun w' => Below w.heap.size w w' ∧ IB w' (w.heap.size) (p) (q) ∧ IB w' (w.heap.size + 1) (r) (s))) ⟨below_set (below_set (below_set (below_set hB (by omega) _) (by omega) _) (by omega) _) (by omega) _, ((((i0.set0 p).set1 q).far (by omega) _).far (by omega) _), (((((i1.far (by omega) _).far (by omega) _).set0 r)).set1 s)⟩ (fun w2 hS => ?_)
  clear i0 c0 d0 f0 e0 i1 c1 d1 f1 e1 hB
  obtain ⟨hB, i0, i1⟩ := hS
  have c0 := i0.c0; have d0 := i0.c1; have c1 := i1.c0; have d1 := i1.c1; 
  have f0 := i0.f0 0; have e0 := i0.f0 1
  have f1 := i1.f0 0; have e1 := i1.f0 1
  go_wp2_with (go_at_call 34; refine (empty_any _ _ _).mono ?_; rintro e w3 ⟨rfl, hb⟩; replace hB := below_call hB hb; replace i0 := IB.below i0 hb; have c0 := i0.c0; have d0 := i0.c1; have f0 := i0.f0 0; have e0 := i0.f0 1; replace i1 := IB.below i1 hb; have c1 := i1.c0; have d1 := i1.c1; have f1 := i1.f0 0; have e1 := i1.f0 1; clear hb)
  go_ret
  exact ⟨rfl, hB⟩
theorem leq_4 (a b c d p q r s : Int) (w : World) (hpq : fixP a b = (p, q)) (hrs : fixP c d = (r, s)) (h1 : emptyB p q = false) (h2 : emptyB r s = false) (h3 : decide (r ≤ p) = true) :
    Calls Try.prog 21 #[.agg #[.int .i64 a, .int .i64 b], .agg #[.int .i64 c, .int .i64 d]] w fun e w' => e = .returned (.bool (decide (q ≤ s))) ∧ Below w.heap.size w w' := by
  have Hpq := Lib.hid hpq; have Hrs := Lib.hid hrs; clear hpq hrs
  go_enter Try.func21, Try.ntmps21
  go_wp2_with fail
  refine o_start (S := (fun w' => Below w.heap.size w w' ∧ IB w' (w.heap.size) (a) (b) ∧ IB w' (w.heap.size + 1) (c) (d))) (ds := [4, 5]) (.cons 0 1 (.cons 2 1 (.cons 1 2 (.cons 3 2 (.cons 4 3 (.cons 5 3 .nil)))))) (by kernel_rfl) (by kernel_rfl) (fun _ _ d _ _ h => by cases d <;> exact h) ⟨(((Below.refl _ _).alloc (Nat.le_refl _) _).alloc (by simp) _).drew, ((IB.new w a b).alloc _).drew, (IB.at (by simp) c d).drew⟩ (fun w1 hS => ?_)
  repeat' (first
    | (refine o_off (a' := ?_) rfl rfl (by rfl) ?_ ?_; rotate_left; (focus (simp only [Act.put, List.setIfInBounds_toArray, List.set_cons_zero, List.set_cons_succ, i64_w, i32_w]; rfl)))
    | (refine o_pure (v := ?_) (a' := ?_) rfl rfl (by rfl) ?_ ?_ ?_; rotate_left 2; (focus (intro w'; go_simp; with_reducible rfl)); (focus (simp only [Act.put, List.setIfInBounds_toArray, List.set_cons_zero, List.set_cons_succ, i64_w, i32_w]; rfl)))
    | (refine o_loadoff (a' := ?_) rfl rfl (by rfl) hS ?_ ?_; rotate_left; (focus (simp only [Act.put, List.setIfInBounds_toArray, List.set_cons_zero, List.set_cons_succ, i64_w, i32_w]; rfl)))
    | (refine o_load (v := ?_) (a' := ?_) rfl rfl (by rfl) hS ?_ ?_ ?_; rotate_left 2; (focus (rintro w' ⟨_, i0, i1⟩; have c0 := i0.c0; have d0 := i0.c1; have c1 := i1.c0; have d1 := i1.c1; go_simp; with_reducible rfl)); (focus (simp only [Act.put, List.setIfInBounds_toArray, List.set_cons_zero, List.set_cons_succ, i64_w, i32_w]; rfl)))
    | (refine o_one rfl ?_)
    | (refine o_fork2 rfl rfl ?_ ?_)
    | (refine s_off (a' := ?_) rfl (by rfl) hS ?_ ?_; rotate_left; (focus (simp only [Act.put, List.setIfInBounds_toArray, List.set_cons_zero, List.set_cons_succ, i64_w, i32_w]; rfl)))
    | (refine s_call (f := 33) (a' := ?_) rfl (by rfl) rfl Try.func33 (by kernel_rfl) rfl (fix_as Hpq.out _) (by (try simp only [List.map_toArray, List.map_cons, List.map_nil]); first | done | rfl) (fun w' hb => ⟨below_call hS.1 hb, IB.below hS.2.1 hb, IB.below hS.2.2 hb⟩) ?_ ?_; rotate_left; (focus (simp only [Act.put, List.setIfInBounds_toArray, List.set_cons_zero, List.set_cons_succ, i64_w, i32_w]; rfl)); clear hS; intro w1 hb hS; clear hb)
    | (refine s_call (f := 33) (a' := ?_) rfl (by rfl) rfl Try.func33 (by kernel_rfl) rfl (fix_as Hrs.out _) (by (try simp only [List.map_toArray, List.map_cons, List.map_nil]); first | done | rfl) (fun w' hb => ⟨below_call hS.1 hb, IB.below hS.2.1 hb, IB.below hS.2.2 hb⟩) ?_ ?_; rotate_left; (focus (simp only [Act.put, List.setIfInBounds_toArray, List.set_cons_zero, List.set_cons_succ, i64_w, i32_w]; rfl)); clear hS; intro w1 hb hS; clear hb))
  obtain ⟨hB, i0, i1⟩ := hS
  have c0 := i0.c0; have d0 := i0.c1; have c1 := i1.c0; have d1 := i1.c1; 
  have f0 := i0.f0 0; have e0 := i0.f0 1
  have f1 := i1.f0 0; have e1 := i1.f0 1
  (refine o_store (w1 := ?_) rfl rfl (by rfl) ?_ ?_; rotate_left; (focus (go_simp; rfl)))
  (refine o_store (w1 := ?_) rfl rfl (by rfl) ?_ ?_; rotate_left; (focus (go_simp; rfl)))
  refine o_close (S' := (fun w' => Below w.heap.size w w' ∧ IB w' (w.heap.size) (p) (q) ∧ IB w' (w.heap.size + 1) (r) (s))) ⟨below_set (below_set (below_set (below_set hB (by omega) _) (by omega) _) (by omega) _) (by omega) _, ((((i0.set0 p).set1 q).far (by omega) _).far (by omega) _), (((((i1.far (by omega) _).far (by omega) _).set0 r)).set1 s)⟩ (fun w2 hS => ?_)
  clear i0 c0 d0 f0 e0 i1 c1 d1 f1 e1 hB
  obtain ⟨hB, i0, i1⟩ := hS
  have c0 := i0.c0; have d0 := i0.c1; have c1 := i1.c0; have d1 := i1.c1; 
  have f0 := i0.f0 0; have e0 := i0.f0 1
  have f1 := i1.f0 0; have e1 := i1.f0 1
  go_wp2_with (go_at_call 34; refine (empty_any _ _ _).mono ?_; rintro e w3 ⟨rfl, hb⟩; replace hB := below_call hB hb; replace i0 := IB.below i0 hb; have c0 := i0.c0; have d0 := i0.c1; have f0 := i0.f0 0; have e0 := i0.f0 1; replace i1 := IB.below i1 hb; have c1 := i1.c0; have d1 := i1.c1; have f1 := i1.f0 0; have e1 := i1.f0 1; clear hb)
  go_ret
  exact ⟨rfl, hB⟩
theorem leq_as {a b c d p q r s : Int} (hpq : fixP a b = (p, q)) (hrs : fixP c d = (r, s)) (w : World) :
    Calls Try.prog 21 #[.agg #[.int .i64 a, .int .i64 b], .agg #[.int .i64 c, .int .i64 d]] w fun e w' => e = .returned (.bool (leq0 p q r s)) ∧ Below w.heap.size w w' := by
  cases h1 : emptyB p q
  · cases h2 : emptyB r s
    · cases h3 : decide (r ≤ p)
      · refine (leq_3 a b c d p q r s w hpq hrs h1 h2 h3).mono ?_
        rintro e w' ⟨rfl, hb⟩
        refine ⟨ret_bool ?_, hb⟩
        rw [Bool.eq_iff_iff]; simp [emptyB, leq0] at *; omega
      · refine (leq_4 a b c d p q r s w hpq hrs h1 h2 h3).mono ?_
        rintro e w' ⟨rfl, hb⟩
        refine ⟨ret_bool ?_, hb⟩
        rw [Bool.eq_iff_iff]; simp [emptyB, leq0] at *; omega
    · refine (leq_2 a b c d p q r s w hpq hrs h1 h2).mono ?_
      rintro e w' ⟨rfl, hb⟩
      refine ⟨ret_bool ?_, hb⟩
      rw [Bool.eq_iff_iff]; simp [emptyB, leq0] at *; omega
  · refine (leq_1 a b c d p q r s w hpq hrs h1).mono ?_
    rintro e w' ⟨rfl, hb⟩
    refine ⟨ret_bool ?_, hb⟩
    rw [Bool.eq_iff_iff]; simp [emptyB, leq0] at *; omega
theorem has_1 (a b n p q : Int) (w : World) (hpq : fixP a b = (p, q)) (h1 : decide (p ≤ n) = false) :
    Calls Try.prog 19 #[.agg #[.int .i64 a, .int .i64 b], .int .i64 n] w fun e w' => e = .returned (.bool false) ∧ Below w.heap.size w w' := by
  have Hpq := Lib.hid hpq; clear hpq
  go_enter Try.func19, Try.ntmps19
  go_wp2_with (go_at_call 33; refine (fix_as Hpq.out _).mono ?_; rintro e w3 ⟨rfl, hb⟩; have hB := below_call ((Below.refl w.heap.size w).alloc (Nat.le_refl _) _) hb; have i0 := (IB.new w a b).below hb; have c0 := i0.c0; have d0 := i0.c1; have f0 := i0.f0 0; have e0 := i0.f0 1; clear hb)
  go_ret
  exact ⟨rfl, below_set (below_set hB (by omega) _) (by omega) _⟩
theorem has_2 (a b n p q : Int) (w : World) (hpq : fixP a b = (p, q)) (h1 : decide (p ≤ n) = true) :
    Calls Try.prog 19 #[.agg #[.int .i64 a, .int .i64 b], .int .i64 n] w fun e w' => e = .returned (.bool (decide (n ≤ q))) ∧ Below w.heap.size w w' := by
  have Hpq := Lib.hid hpq; clear hpq
  go_enter Try.func19, Try.ntmps19
  go_wp2_with (go_at_call 33; refine (fix_as Hpq.out _).mono ?_; rintro e w3 ⟨rfl, hb⟩; have hB := below_call ((Below.refl w.heap.size w).alloc (Nat.le_refl _) _) hb; have i0 := (IB.new w a b).below hb; have c0 := i0.c0; have d0 := i0.c1; have f0 := i0.f0 0; have e0 := i0.f0 1; clear hb)
  go_ret
  exact ⟨rfl, below_set (below_set hB (by omega) _) (by omega) _⟩
theorem has_as {a b p q : Int} (n : Int) (hpq : fixP a b = (p, q)) (w : World) :
    Calls Try.prog 19 #[.agg #[.int .i64 a, .int .i64 b], .int .i64 n] w fun e w' => e = .returned (.bool (hasB p q n)) ∧ Below w.heap.size w w' := by
  cases h1 : decide (p ≤ n)
  · refine (has_1 a b n p q w hpq h1).mono ?_
    rintro e w' ⟨rfl, hb⟩
    refine ⟨ret_bool ?_, hb⟩
    rw [Bool.eq_iff_iff]; simp [hasB] at *; omega
  · refine (has_2 a b n p q w hpq h1).mono ?_
    rintro e w' ⟨rfl, hb⟩
    refine ⟨ret_bool ?_, hb⟩
    rw [Bool.eq_iff_iff]; simp [hasB] at *; omega
end Go.Proofs.Ytdooadomkifbbaa
