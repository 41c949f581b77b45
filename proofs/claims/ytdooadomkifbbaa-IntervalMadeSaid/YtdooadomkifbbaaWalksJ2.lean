/-
  The walks of the reference's Do, operator by operator, part 2. Conditions: words, as Form gives them.
-/
import Derived.Test.YtdooadomkifbbaaWalksH
import Derived.Test.YtdooadomkifbbaaPlain4
namespace Go.Proofs.Ytdooadomkifbbaa
open Go.RowKit
open Go.Proofs.YtdooadomkifbbaaW.PrintLast
attribute [local go_sem high] eqA23
attribute [local go_sem] max2_i min2_i max_2 min_2 max_4 min_4
set_option maxHeartbeats 2000000
set_option maxRecDepth 100000
set_option linter.unusedSimpArgs false
set_option linter.unusedVariables false
theorem rd_6 (a b c d p q r s : Int) (w : World) (hpq : fixP a b = (p, q)) (hrs : fixP c d = (r, s)) (h1 : eqI p q 1 0 = false) (h2 : eqI r s 1 0 = false) (b0 : -2147483648 ≤ p) (b1 : p ≤ 2147483647) (b2 : -2147483648 ≤ q) (b3 : q ≤ 2147483647) (b4 : -2147483648 ≤ r) (b5 : r ≤ 2147483647) (b6 : -2147483648 ≤ s) (b7 : s ≤ 2147483647) (lp : p ≤ q) (lr : r ≤ s) :
    Calls Try.prog 27 #[.int .i64 6, .agg #[.int .i64 a, .int .i64 b], .agg #[.int .i64 c, .int .i64 d]] w fun e w' => e = .returned (.agg #[.int .i64 (do1F 6 p q r s).1, .int .i64 (do1F 6 p q r s).2]) ∧ Below w.heap.size w w' := by
  have Hpq := Lib.hid hpq; have Hrs := Lib.hid hrs; clear hpq hrs
  go_enter Try.func27, Try.ntmps27
  go_wp2_with fail
  refine o_start (S := (fun w' => Below w.heap.size w w' ∧ IB w' (w.heap.size) (a) (b) ∧ IB w' (w.heap.size + 1) (c) (d) ∧ IB w' (w.heap.size + 2) (0) (0))) (ds := [4, 5]) (.cons 0 1 (.cons 2 1 (.cons 1 2 (.cons 3 2 (.cons 4 3 (.cons 5 3 .nil)))))) (by kernel_rfl) (by kernel_rfl) (fun _ _ d _ _ h => by cases d <;> exact h) ⟨((((Below.refl _ _).alloc (Nat.le_refl _) _).alloc (by simp) _).alloc (by simp; omega) _).drew, (((IB.new w a b).alloc _).alloc _).drew, ((IB.at (by simp) c d).alloc _).drew, (IB.at (by simp) 0 0).drew⟩ (fun w1 hS => ?_)
  repeat' (first
    | (refine o_off (a' := ?_) rfl rfl (by rfl) ?_ ?_; rotate_left; (focus (simp only [Act.put, sA, sB, sC, i64_w, i32_w]; rfl)))
    | (refine o_pure (v := ?_) (a' := ?_) rfl rfl (by rfl) ?_ ?_ ?_; rotate_left 2; (focus (intro w'; go_simp; with_reducible rfl)); (focus (simp only [Act.put, sA, sB, sC, i64_w, i32_w]; rfl)))
    | (refine o_loadoff (a' := ?_) rfl rfl (by rfl) hS ?_ ?_; rotate_left; (focus (simp only [Act.put, sA, sB, sC, i64_w, i32_w]; rfl)))
    | (refine o_load (v := ?_) (a' := ?_) rfl rfl (by rfl) hS ?_ ?_ ?_; rotate_left 2; (focus (rintro w' ⟨_, i0, i1, i2⟩; have c0 := i0.c0; have d0 := i0.c1; have c1 := i1.c0; have d1 := i1.c1; have c2 := i2.c0; have d2 := i2.c1; go_simp; with_reducible rfl)); (focus (simp only [Act.put, sA, sB, sC, i64_w, i32_w]; rfl)))
    | (refine o_one rfl ?_)
    | (refine o_fork2 rfl rfl ?_ ?_)
    | (refine s_off (a' := ?_) rfl (by rfl) hS ?_ ?_; rotate_left; (focus (simp only [Act.put, sA, sB, sC, i64_w, i32_w]; rfl)))
    | (refine s_call (f := 46) (a' := ?_) rfl (by rfl) rfl Try.func46 (by kernel_rfl) rfl (form_as Hpq.out _) (by (try simp only [List.map_toArray, List.map_cons, List.map_nil]); first | done | rfl) (fun w' hb => ⟨below_call hS.1 hb, IB.below hS.2.1 hb, IB.below hS.2.2.1 hb, IB.below hS.2.2.2 hb⟩) ?_ ?_; rotate_left; (focus (simp only [Act.put, sA, sB, sC, i64_w, i32_w]; rfl)); clear hS; intro w1 hb hS; clear hb)
    | (refine s_call (f := 46) (a' := ?_) rfl (by rfl) rfl Try.func46 (by kernel_rfl) rfl (form_as Hrs.out _) (by (try simp only [List.map_toArray, List.map_cons, List.map_nil]); first | done | rfl) (fun w' hb => ⟨below_call hS.1 hb, IB.below hS.2.1 hb, IB.below hS.2.2.1 hb, IB.below hS.2.2.2 hb⟩) ?_ ?_; rotate_left; (focus (simp only [Act.put, sA, sB, sC, i64_w, i32_w]; rfl)); clear hS; intro w1 hb hS; clear hb))
  obtain ⟨hB, i0, i1, i2⟩ := hS
  have c0 := i0.c0; have d0 := i0.c1; have c1 := i1.c0; have d1 := i1.c1; have c2 := i2.c0; have d2 := i2.c1; 
  have f0 := i0.f0 0; have e0 := i0.f0 1
  have f1 := i1.f0 0; have e1 := i1.f0 1
  have f2 := i2.f0 0; have e2 := i2.f0 1
  (refine o_store (w1 := ?_) rfl rfl (by rfl) ?_ ?_; rotate_left; (focus (go_simp; rfl)))
  (refine o_store (w1 := ?_) rfl rfl (by rfl) ?_ ?_; rotate_left; (focus (go_simp; rfl)))
  refine o_close (S' := (fun w' => Below w.heap.size w w' ∧ IB w' (w.heap.size) (p) (q) ∧ IB w' (w.heap.size + 1) (r) (s) ∧ IB w' (w.heap.size + 2) (0) (0))) ⟨below_set (below_set (below_set (below_set hB (by omega) _) (by omega) _) (by omega) _) (by omega) _, ((((i0.set0 p).set1 q).far (by omega) _).far (by omega) _), (((((i1.far (by omega) _).far (by omega) _).set0 r)).set1 s), ((((i2.far (by omega) _).far (by omega) _).far (by omega) _).far (by omega) _)⟩ (fun w2 hS => ?_)
  clear i0 c0 d0 f0 e0 i1 c1 d1 f1 e1 i2 c2 d2 f2 e2 hB
  obtain ⟨hB, i0, i1, i2⟩ := hS
  have c0 := i0.c0; have d0 := i0.c1; have c1 := i1.c0; have d1 := i1.c1; have c2 := i2.c0; have d2 := i2.c1; 
  have f0 := i0.f0 0; have e0 := i0.f0 1
  have f1 := i1.f0 0; have e1 := i1.f0 1
  have f2 := i2.f0 0; have e2 := i2.f0 1
  go_wp2_with fail
  refine o_start (S := (fun w' => Below w.heap.size w w' ∧ IB w' (w.heap.size) (p) (q) ∧ IB w' (w.heap.size + 1) (r) (s) ∧ IB w' (w.heap.size + 2) (0) (0))) (ds := []) (.cons 0 1 (.cons 1 2 (.cons 2 0 (.cons 3 0 (.cons 4 1 (.cons 5 2 (.cons 6 0 (.cons 7 0 .nil)))))))) (by kernel_rfl) (by kernel_rfl) (fun _ _ d _ _ h => by cases d <;> exact h) ⟨hB.drew, i0.drew, i1.drew, i2.drew⟩ (fun w1 hS => ?_)
  clear hB i0 c0 d0 f0 e0 i1 c1 d1 f1 e1 i2 c2 d2 f2 e2
  repeat' (first
    | (refine o_off (a' := ?_) rfl rfl (by rfl) ?_ ?_; rotate_left; (focus (simp only [Act.put, sA, sB, sC, i64_w, i32_w]; rfl)))
    | (refine o_pure (v := ?_) (a' := ?_) rfl rfl (by rfl) ?_ ?_ ?_; rotate_left 2; (focus (intro w'; go_simp; with_reducible rfl)); (focus (simp only [Act.put, sA, sB, sC, i64_w, i32_w]; rfl)))
    | (refine o_loadoff (a' := ?_) rfl rfl (by rfl) hS ?_ ?_; rotate_left; (focus (simp only [Act.put, sA, sB, sC, i64_w, i32_w]; rfl)))
    | (refine o_load (v := ?_) (a' := ?_) rfl rfl (by rfl) hS ?_ ?_ ?_; rotate_left 2; (focus (rintro w' ⟨_, i0, i1, i2⟩; have c0 := i0.c0; have d0 := i0.c1; have c1 := i1.c0; have d1 := i1.c1; have c2 := i2.c0; have d2 := i2.c1; go_simp; with_reducible rfl)); (focus (simp only [Act.put, sA, sB, sC, i64_w, i32_w]; rfl)))
    | (refine o_one rfl ?_)
    | (refine o_fork2 rfl rfl ?_ ?_)
    | (refine s_off (a' := ?_) rfl (by rfl) hS ?_ ?_; rotate_left; (focus (simp only [Act.put, sA, sB, sC, i64_w, i32_w]; rfl)))
    | (refine s_call (f := 13) (a' := ?_) rfl (by rfl) rfl Try.func13 (by kernel_rfl) rfl (rnone_any _) (by (try simp only [List.map_toArray, List.map_cons, List.map_nil]); first | done | rfl) (fun w' hb => ⟨below_call hS.1 hb, IB.below hS.2.1 hb, IB.below hS.2.2.1 hb, IB.below hS.2.2.2 hb⟩) ?_ ?_; rotate_left; (focus (simp only [Act.put, sA, sB, sC, i64_w, i32_w]; rfl)); clear hS; intro w1 hb hS; clear hb))
  refine o_done ?_
  obtain ⟨hB, i0, i1, i2⟩ := hS
  have c0 := i0.c0; have d0 := i0.c1; have c1 := i1.c0; have d1 := i1.c1; have c2 := i2.c0; have d2 := i2.c1; 
  have f0 := i0.f0 0; have e0 := i0.f0 1
  have f1 := i1.f0 0; have e1 := i1.f0 1
  have f2 := i2.f0 0; have e2 := i2.f0 1
  go_wp2_with fail
  refine o_start (S := (fun w' => Below w.heap.size w w' ∧ IB w' (w.heap.size) (p) (q) ∧ IB w' (w.heap.size + 1) (r) (s) ∧ IB w' (w.heap.size + 2) (0) (0))) (ds := []) (.cons 0 0 (.cons 1 1 (.cons 2 0 (.cons 3 1 (.cons 4 0 (.cons 5 1 (.cons 6 0 (.cons 7 1 (.cons 8 0 (.cons 9 0 (.cons 10 0 (.cons 11 0 .nil)))))))))))) (by kernel_rfl) (by kernel_rfl) (fun _ _ d _ _ h => by cases d <;> exact h) ⟨hB.drew, i0.drew, i1.drew, i2.drew⟩ (fun w1 hS => ?_)
  clear hB i0 c0 d0 f0 e0 i1 c1 d1 f1 e1 i2 c2 d2 f2 e2
  repeat' (first
    | (refine o_off (a' := ?_) rfl rfl (by rfl) ?_ ?_; rotate_left; (focus (simp only [Act.put, sA, sB, sC, i64_w, i32_w]; rfl)))
    | (refine o_pure (v := ?_) (a' := ?_) rfl rfl (by rfl) ?_ ?_ ?_; rotate_left 2; (focus (intro w'; go_simp; with_reducible rfl)); (focus (simp only [Act.put, sA, sB, sC, i64_w, i32_w]; rfl)))
    | (refine o_loadoff (a' := ?_) rfl rfl (by rfl) hS ?_ ?_; rotate_left; (focus (simp only [Act.put, sA, sB, sC, i64_w, i32_w]; rfl)))
    | (refine o_load (v := ?_) (a' := ?_) rfl rfl (by rfl) hS ?_ ?_ ?_; rotate_left 2; (focus (rintro w' ⟨_, i0, i1, i2⟩; have c0 := i0.c0; have d0 := i0.c1; have c1 := i1.c0; have d1 := i1.c1; have c2 := i2.c0; have d2 := i2.c1; go_simp; with_reducible rfl)); (focus (simp only [Act.put, sA, sB, sC, i64_w, i32_w]; rfl)))
    | (refine o_one rfl ?_)
    | (refine o_fork2 rfl rfl ?_ ?_)
    | (refine s_off (a' := ?_) rfl (by rfl) hS ?_ ?_; rotate_left; (focus (simp only [Act.put, sA, sB, sC, i64_w, i32_w]; rfl))))
  refine o_done ?_
  obtain ⟨hB, i0, i1, i2⟩ := hS
  have c0 := i0.c0; have d0 := i0.c1; have c1 := i1.c0; have d1 := i1.c1; have c2 := i2.c0; have d2 := i2.c1; 
  have f0 := i0.f0 0; have e0 := i0.f0 1
  have f1 := i1.f0 0; have e1 := i1.f0 1
  have f2 := i2.f0 0; have e2 := i2.f0 1
  by_cases h3 : 0 ≤ p <;> by_cases h4 : 0 ≤ r
  · have e : do1F 6 p q r s = made 0 (mnI q s) := by
      have e0 : do1F 6 p q r s = bitF 6 p q r s := rfl
      rw [e0]; unfold bitF; rw [if_pos ⟨h3, h4⟩, if_pos rfl, made_le (show 0 ≤ mnI q s by unfold mnI; split <;> omega)]
    go_wp2_with (go_at_call 48; refine (rof_any _ _ _).mono ?_; rintro e w3 ⟨rfl, hb⟩; replace hB := below_call hB hb; replace i0 := IB.below i0 hb; obtain ⟨c0, d0, f0, e0⟩ := i0.all; replace i1 := IB.below i1 hb; obtain ⟨c1, d1, f1, e1⟩ := i1.all; replace i2 := IB.below i2 hb; obtain ⟨c2, d2, f2, e2⟩ := i2.all; clear hb)
    refine bodyPost_ret (v := .agg #[.int .i64 ((made 0 (mnI q s)).1), .int .i64 ((made 0 (mnI q s)).2)]) ?_ rfl ⟨ret_e e, ?_⟩
    · have k0 := ((i2.set0 ((made 0 (mnI q s)).1)).set1 ((made 0 (mnI q s)).2)).c0
      have k1 := ((i2.set0 ((made 0 (mnI q s)).1)).set1 ((made 0 (mnI q s)).2)).c1
      simp [results, Try.results27, go_sem, k0, k1]
    · exact below_set (below_set hB (by omega) _) (by omega) _
  · have e : do1F 6 p q r s = made 0 q := by
      have e0 : do1F 6 p q r s = bitF 6 p q r s := rfl
      rw [e0]; unfold bitF; rw [if_neg (fun h => h4 h.2), if_pos ⟨h3, rfl⟩, made_le (show 0 ≤ q by omega)]
    go_wp2_with (go_at_call 48; refine (rof_any _ _ _).mono ?_; rintro e w3 ⟨rfl, hb⟩; replace hB := below_call hB hb; replace i0 := IB.below i0 hb; obtain ⟨c0, d0, f0, e0⟩ := i0.all; replace i1 := IB.below i1 hb; obtain ⟨c1, d1, f1, e1⟩ := i1.all; replace i2 := IB.below i2 hb; obtain ⟨c2, d2, f2, e2⟩ := i2.all; clear hb)
    refine bodyPost_ret (v := .agg #[.int .i64 ((made 0 q).1), .int .i64 ((made 0 q).2)]) ?_ rfl ⟨ret_e e, ?_⟩
    · have k0 := ((i2.set0 ((made 0 q).1)).set1 ((made 0 q).2)).c0
      have k1 := ((i2.set0 ((made 0 q).1)).set1 ((made 0 q).2)).c1
      simp [results, Try.results27, go_sem, k0, k1]
    · exact below_set (below_set hB (by omega) _) (by omega) _
  · have e : do1F 6 p q r s = made 0 s := by
      have e0 : do1F 6 p q r s = bitF 6 p q r s := rfl
      rw [e0]; unfold bitF; rw [if_neg (fun h => h3 h.1), if_neg (fun h => h3 h.1), if_pos ⟨h4, rfl⟩, made_le (show 0 ≤ s by omega)]
    go_wp2_with (go_at_call 48; refine (rof_any _ _ _).mono ?_; rintro e w3 ⟨rfl, hb⟩; replace hB := below_call hB hb; replace i0 := IB.below i0 hb; obtain ⟨c0, d0, f0, e0⟩ := i0.all; replace i1 := IB.below i1 hb; obtain ⟨c1, d1, f1, e1⟩ := i1.all; replace i2 := IB.below i2 hb; obtain ⟨c2, d2, f2, e2⟩ := i2.all; clear hb)
    refine bodyPost_ret (v := .agg #[.int .i64 ((made 0 s).1), .int .i64 ((made 0 s).2)]) ?_ rfl ⟨ret_e e, ?_⟩
    · have k0 := ((i2.set0 ((made 0 s).1)).set1 ((made 0 s).2)).c0
      have k1 := ((i2.set0 ((made 0 s).1)).set1 ((made 0 s).2)).c1
      simp [results, Try.results27, go_sem, k0, k1]
    · exact below_set (below_set hB (by omega) _) (by omega) _
  · have e : do1F 6 p q r s = allP := by
      have e0 : do1F 6 p q r s = bitF 6 p q r s := rfl
      rw [e0]; unfold bitF; rw [if_neg (fun h => h3 h.1), if_neg (fun h => h3 h.1), if_neg (fun h => h4 h.1)]; rfl
    go_wp2_with (go_at_call 11; refine (rall_any _).mono ?_; rintro e w3 ⟨rfl, hb⟩; replace hB := below_call hB hb; replace i0 := IB.below i0 hb; obtain ⟨c0, d0, f0, e0⟩ := i0.all; replace i1 := IB.below i1 hb; obtain ⟨c1, d1, f1, e1⟩ := i1.all; replace i2 := IB.below i2 hb; obtain ⟨c2, d2, f2, e2⟩ := i2.all; clear hb)
    refine bodyPost_ret (v := .agg #[.int .i64 (-2147483648), .int .i64 (2147483647)]) ?_ rfl ⟨ret_e e, ?_⟩
    · have k0 := ((i2.set0 (-2147483648)).set1 (2147483647)).c0
      have k1 := ((i2.set0 (-2147483648)).set1 (2147483647)).c1
      simp [results, Try.results27, go_sem, k0, k1]
    · exact below_set (below_set hB (by omega) _) (by omega) _
theorem rd_7 (a b c d p q r s : Int) (w : World) (hpq : fixP a b = (p, q)) (hrs : fixP c d = (r, s)) (h1 : eqI p q 1 0 = false) (h2 : eqI r s 1 0 = false) (b0 : -2147483648 ≤ p) (b1 : p ≤ 2147483647) (b2 : -2147483648 ≤ q) (b3 : q ≤ 2147483647) (b4 : -2147483648 ≤ r) (b5 : r ≤ 2147483647) (b6 : -2147483648 ≤ s) (b7 : s ≤ 2147483647) (lp : p ≤ q) (lr : r ≤ s) :
    Calls Try.prog 27 #[.int .i64 7, .agg #[.int .i64 a, .int .i64 b], .agg #[.int .i64 c, .int .i64 d]] w fun e w' => e = .returned (.agg #[.int .i64 (do1F 7 p q r s).1, .int .i64 (do1F 7 p q r s).2]) ∧ Below w.heap.size w w' := by
  have Hpq := Lib.hid hpq; have Hrs := Lib.hid hrs; clear hpq hrs
  go_enter Try.func27, Try.ntmps27
  go_wp2_with fail
  refine o_start (S := (fun w' => Below w.heap.size w w' ∧ IB w' (w.heap.size) (a) (b) ∧ IB w' (w.heap.size + 1) (c) (d) ∧ IB w' (w.heap.size + 2) (0) (0))) (ds := [4, 5]) (.cons 0 1 (.cons 2 1 (.cons 1 2 (.cons 3 2 (.cons 4 3 (.cons 5 3 .nil)))))) (by kernel_rfl) (by kernel_rfl) (fun _ _ d _ _ h => by cases d <;> exact h) ⟨((((Below.refl _ _).alloc (Nat.le_refl _) _).alloc (by simp) _).alloc (by simp; omega) _).drew, (((IB.new w a b).alloc _).alloc _).drew, ((IB.at (by simp) c d).alloc _).drew, (IB.at (by simp) 0 0).drew⟩ (fun w1 hS => ?_)
  repeat' (first
    | (refine o_off (a' := ?_) rfl rfl (by rfl) ?_ ?_; rotate_left; (focus (simp only [Act.put, sA, sB, sC, i64_w, i32_w]; rfl)))
    | (refine o_pure (v := ?_) (a' := ?_) rfl rfl (by rfl) ?_ ?_ ?_; rotate_left 2; (focus (intro w'; go_simp; with_reducible rfl)); (focus (simp only [Act.put, sA, sB, sC, i64_w, i32_w]; rfl)))
    | (refine o_loadoff (a' := ?_) rfl rfl (by rfl) hS ?_ ?_; rotate_left; (focus (simp only [Act.put, sA, sB, sC, i64_w, i32_w]; rfl)))
    | (refine o_load (v := ?_) (a' := ?_) rfl rfl (by rfl) hS ?_ ?_ ?_; rotate_left 2; (focus (rintro w' ⟨_, i0, i1, i2⟩; have c0 := i0.c0; have d0 := i0.c1; have c1 := i1.c0; have d1 := i1.c1; have c2 := i2.c0; have d2 := i2.c1; go_simp; with_reducible rfl)); (focus (simp only [Act.put, sA, sB, sC, i64_w, i32_w]; rfl)))
    | (refine o_one rfl ?_)
    | (refine o_fork2 rfl rfl ?_ ?_)
    | (refine s_off (a' := ?_) rfl (by rfl) hS ?_ ?_; rotate_left; (focus (simp only [Act.put, sA, sB, sC, i64_w, i32_w]; rfl)))
    | (refine s_call (f := 46) (a' := ?_) rfl (by rfl) rfl Try.func46 (by kernel_rfl) rfl (form_as Hpq.out _) (by (try simp only [List.map_toArray, List.map_cons, List.map_nil]); first | done | rfl) (fun w' hb => ⟨below_call hS.1 hb, IB.below hS.2.1 hb, IB.below hS.2.2.1 hb, IB.below hS.2.2.2 hb⟩) ?_ ?_; rotate_left; (focus (simp only [Act.put, sA, sB, sC, i64_w, i32_w]; rfl)); clear hS; intro w1 hb hS; clear hb)
    | (refine s_call (f := 46) (a' := ?_) rfl (by rfl) rfl Try.func46 (by kernel_rfl) rfl (form_as Hrs.out _) (by (try simp only [List.map_toArray, List.map_cons, List.map_nil]); first | done | rfl) (fun w' hb => ⟨below_call hS.1 hb, IB.below hS.2.1 hb, IB.below hS.2.2.1 hb, IB.below hS.2.2.2 hb⟩) ?_ ?_; rotate_left; (focus (simp only [Act.put, sA, sB, sC, i64_w, i32_w]; rfl)); clear hS; intro w1 hb hS; clear hb))
  obtain ⟨hB, i0, i1, i2⟩ := hS
  have c0 := i0.c0; have d0 := i0.c1; have c1 := i1.c0; have d1 := i1.c1; have c2 := i2.c0; have d2 := i2.c1; 
  have f0 := i0.f0 0; have e0 := i0.f0 1
  have f1 := i1.f0 0; have e1 := i1.f0 1
  have f2 := i2.f0 0; have e2 := i2.f0 1
  (refine o_store (w1 := ?_) rfl rfl (by rfl) ?_ ?_; rotate_left; (focus (go_simp; rfl)))
  (refine o_store (w1 := ?_) rfl rfl (by rfl) ?_ ?_; rotate_left; (focus (go_simp; rfl)))
  refine o_close (S' := (fun w' => Below w.heap.size w w' ∧ IB w' (w.heap.size) (p) (q) ∧ IB w' (w.heap.size + 1) (r) (s) ∧ IB w' (w.heap.size + 2) (0) (0))) ⟨below_set (below_set (below_set (below_set hB (by omega) _) (by omega) _) (by omega) _) (by omega) _, ((((i0.set0 p).set1 q).far (by omega) _).far (by omega) _), (((((i1.far (by omega) _).far (by omega) _).set0 r)).set1 s), ((((i2.far (by omega) _).far (by omega) _).far (by omega) _).far (by omega) _)⟩ (fun w2 hS => ?_)
  clear i0 c0 d0 f0 e0 i1 c1 d1 f1 e1 i2 c2 d2 f2 e2 hB
  obtain ⟨hB, i0, i1, i2⟩ := hS
  have c0 := i0.c0; have d0 := i0.c1; have c1 := i1.c0; have d1 := i1.c1; have c2 := i2.c0; have d2 := i2.c1; 
  have f0 := i0.f0 0; have e0 := i0.f0 1
  have f1 := i1.f0 0; have e1 := i1.f0 1
  have f2 := i2.f0 0; have e2 := i2.f0 1
  go_wp2_with fail
  refine o_start (S := (fun w' => Below w.heap.size w w' ∧ IB w' (w.heap.size) (p) (q) ∧ IB w' (w.heap.size + 1) (r) (s) ∧ IB w' (w.heap.size + 2) (0) (0))) (ds := []) (.cons 0 1 (.cons 1 2 (.cons 2 0 (.cons 3 0 (.cons 4 1 (.cons 5 2 (.cons 6 0 (.cons 7 0 .nil)))))))) (by kernel_rfl) (by kernel_rfl) (fun _ _ d _ _ h => by cases d <;> exact h) ⟨hB.drew, i0.drew, i1.drew, i2.drew⟩ (fun w1 hS => ?_)
  clear hB i0 c0 d0 f0 e0 i1 c1 d1 f1 e1 i2 c2 d2 f2 e2
  repeat' (first
    | (refine o_off (a' := ?_) rfl rfl (by rfl) ?_ ?_; rotate_left; (focus (simp only [Act.put, sA, sB, sC, i64_w, i32_w]; rfl)))
    | (refine o_pure (v := ?_) (a' := ?_) rfl rfl (by rfl) ?_ ?_ ?_; rotate_left 2; (focus (intro w'; go_simp; with_reducible rfl)); (focus (simp only [Act.put, sA, sB, sC, i64_w, i32_w]; rfl)))
    | (refine o_loadoff (a' := ?_) rfl rfl (by rfl) hS ?_ ?_; rotate_left; (focus (simp only [Act.put, sA, sB, sC, i64_w, i32_w]; rfl)))
    | (refine o_load (v := ?_) (a' := ?_) rfl rfl (by rfl) hS ?_ ?_ ?_; rotate_left 2; (focus (rintro w' ⟨_, i0, i1, i2⟩; have c0 := i0.c0; have d0 := i0.c1; have c1 := i1.c0; have d1 := i1.c1; have c2 := i2.c0; have d2 := i2.c1; go_simp; with_reducible rfl)); (focus (simp only [Act.put, sA, sB, sC, i64_w, i32_w]; rfl)))
    | (refine o_one rfl ?_)
    | (refine o_fork2 rfl rfl ?_ ?_)
    | (refine s_off (a' := ?_) rfl (by rfl) hS ?_ ?_; rotate_left; (focus (simp only [Act.put, sA, sB, sC, i64_w, i32_w]; rfl)))
    | (refine s_call (f := 13) (a' := ?_) rfl (by rfl) rfl Try.func13 (by kernel_rfl) rfl (rnone_any _) (by (try simp only [List.map_toArray, List.map_cons, List.map_nil]); first | done | rfl) (fun w' hb => ⟨below_call hS.1 hb, IB.below hS.2.1 hb, IB.below hS.2.2.1 hb, IB.below hS.2.2.2 hb⟩) ?_ ?_; rotate_left; (focus (simp only [Act.put, sA, sB, sC, i64_w, i32_w]; rfl)); clear hS; intro w1 hb hS; clear hb))
  refine o_done ?_
  obtain ⟨hB, i0, i1, i2⟩ := hS
  have c0 := i0.c0; have d0 := i0.c1; have c1 := i1.c0; have d1 := i1.c1; have c2 := i2.c0; have d2 := i2.c1; 
  have f0 := i0.f0 0; have e0 := i0.f0 1
  have f1 := i1.f0 0; have e1 := i1.f0 1
  have f2 := i2.f0 0; have e2 := i2.f0 1
  go_wp2_with fail
  refine o_start (S := (fun w' => Below w.heap.size w w' ∧ IB w' (w.heap.size) (p) (q) ∧ IB w' (w.heap.size + 1) (r) (s) ∧ IB w' (w.heap.size + 2) (0) (0))) (ds := []) (.cons 0 0 (.cons 1 1 (.cons 2 0 (.cons 3 1 (.cons 4 0 (.cons 5 1 (.cons 6 0 (.cons 7 1 (.cons 8 0 (.cons 9 0 (.cons 10 0 (.cons 11 0 .nil)))))))))))) (by kernel_rfl) (by kernel_rfl) (fun _ _ d _ _ h => by cases d <;> exact h) ⟨hB.drew, i0.drew, i1.drew, i2.drew⟩ (fun w1 hS => ?_)
  clear hB i0 c0 d0 f0 e0 i1 c1 d1 f1 e1 i2 c2 d2 f2 e2
  repeat' (first
    | (refine o_off (a' := ?_) rfl rfl (by rfl) ?_ ?_; rotate_left; (focus (simp only [Act.put, sA, sB, sC, i64_w, i32_w]; rfl)))
    | (refine o_pure (v := ?_) (a' := ?_) rfl rfl (by rfl) ?_ ?_ ?_; rotate_left 2; (focus (intro w'; go_simp; with_reducible rfl)); (focus (simp only [Act.put, sA, sB, sC, i64_w, i32_w]; rfl)))
    | (refine o_loadoff (a' := ?_) rfl rfl (by rfl) hS ?_ ?_; rotate_left; (focus (simp only [Act.put, sA, sB, sC, i64_w, i32_w]; rfl)))
    | (refine o_load (v := ?_) (a' := ?_) rfl rfl (by rfl) hS ?_ ?_ ?_; rotate_left 2; (focus (rintro w' ⟨_, i0, i1, i2⟩; have c0 := i0.c0; have d0 := i0.c1; have c1 := i1.c0; have d1 := i1.c1; have c2 := i2.c0; have d2 := i2.c1; go_simp; with_reducible rfl)); (focus (simp only [Act.put, sA, sB, sC, i64_w, i32_w]; rfl)))
    | (refine o_one rfl ?_)
    | (refine o_fork2 rfl rfl ?_ ?_)
    | (refine s_off (a' := ?_) rfl (by rfl) hS ?_ ?_; rotate_left; (focus (simp only [Act.put, sA, sB, sC, i64_w, i32_w]; rfl))))
  refine o_done ?_
  obtain ⟨hB, i0, i1, i2⟩ := hS
  have c0 := i0.c0; have d0 := i0.c1; have c1 := i1.c0; have d1 := i1.c1; have c2 := i2.c0; have d2 := i2.c1; 
  have f0 := i0.f0 0; have e0 := i0.f0 1
  have f1 := i1.f0 0; have e1 := i1.f0 1
  have f2 := i2.f0 0; have e2 := i2.f0 1
  by_cases h3 : 0 ≤ p
  · by_cases h4 : 0 ≤ r
    · have mq := mx_le q s
      have m0 : 0 ≤ mxI q s := by omega
      have m1 : mxI q s ≤ 2147483647 := by unfold mxI; split <;> omega
      have m3 := maskG_ge 0 (mxI q s) (by omega)
      have m4 : (mxI p r) ≤ maskG 0 (mxI q s) := Int.le_trans (show mxI p r ≤ mxI q s by (unfold mxI; split <;> split <;> omega)) m3
      have e : do1F 7 p q r s = made (mxI p r) (maskG 0 (mxI q s)) := by
        have e0 : do1F 7 p q r s = bitF 7 p q r s := rfl
        rw [e0]; unfold bitF; rw [if_pos ⟨h3, h4⟩, if_neg (by decide), if_pos rfl, made_le m4]
      go_wp2_with (first | (go_at_call 51; refine (bits_any _ (by omega) (by omega) _).mono ?_; rintro e w3 ⟨rfl, hb⟩; replace hB := below_call hB hb; replace i0 := IB.below i0 hb; obtain ⟨c0, d0, f0, e0⟩ := i0.all; replace i1 := IB.below i1 hb; obtain ⟨c1, d1, f1, e1⟩ := i1.all; replace i2 := IB.below i2 hb; obtain ⟨c2, d2, f2, e2⟩ := i2.all; clear hb) | (go_at_call 48; refine (rof_any _ _ _).mono ?_; rintro e w3 ⟨rfl, hb⟩; replace hB := below_call hB hb; replace i0 := IB.below i0 hb; obtain ⟨c0, d0, f0, e0⟩ := i0.all; replace i1 := IB.below i1 hb; obtain ⟨c1, d1, f1, e1⟩ := i1.all; replace i2 := IB.below i2 hb; obtain ⟨c2, d2, f2, e2⟩ := i2.all; clear hb))
      refine bodyPost_ret (v := .agg #[.int .i64 ((made (mxI p r) (maskG 0 (mxI q s))).1), .int .i64 ((made (mxI p r) (maskG 0 (mxI q s))).2)]) ?_ rfl ⟨ret_e e, ?_⟩
      · have k0 := ((i2.set0 ((made (mxI p r) (maskG 0 (mxI q s))).1)).set1 ((made (mxI p r) (maskG 0 (mxI q s))).2)).c0
        have k1 := ((i2.set0 ((made (mxI p r) (maskG 0 (mxI q s))).1)).set1 ((made (mxI p r) (maskG 0 (mxI q s))).2)).c1
        simp [results, Try.results27, go_sem, k0, k1]
      · exact below_set (below_set hB (by omega) _) (by omega) _
    · have e : do1F 7 p q r s = allP := by
        have e0 : do1F 7 p q r s = bitF 7 p q r s := rfl
        rw [e0]; unfold bitF; rw [if_neg (fun h => h4 h.2), if_neg (by omega), if_neg (by omega)]; rfl
      go_wp2_with (go_at_call 11; refine (rall_any _).mono ?_; rintro e w3 ⟨rfl, hb⟩; replace hB := below_call hB hb; replace i0 := IB.below i0 hb; obtain ⟨c0, d0, f0, e0⟩ := i0.all; replace i1 := IB.below i1 hb; obtain ⟨c1, d1, f1, e1⟩ := i1.all; replace i2 := IB.below i2 hb; obtain ⟨c2, d2, f2, e2⟩ := i2.all; clear hb)
      refine bodyPost_ret (v := .agg #[.int .i64 (-2147483648), .int .i64 (2147483647)]) ?_ rfl ⟨ret_e e, ?_⟩
      · have k0 := ((i2.set0 (-2147483648)).set1 (2147483647)).c0
        have k1 := ((i2.set0 (-2147483648)).set1 (2147483647)).c1
        simp [results, Try.results27, go_sem, k0, k1]
      · exact below_set (below_set hB (by omega) _) (by omega) _
  · have e : do1F 7 p q r s = allP := by
      have e0 : do1F 7 p q r s = bitF 7 p q r s := rfl
      rw [e0]; unfold bitF; rw [if_neg (fun h => h3 h.1), if_neg (by omega), if_neg (by omega)]; rfl
    go_wp2_with (go_at_call 11; refine (rall_any _).mono ?_; rintro e w3 ⟨rfl, hb⟩; replace hB := below_call hB hb; replace i0 := IB.below i0 hb; obtain ⟨c0, d0, f0, e0⟩ := i0.all; replace i1 := IB.below i1 hb; obtain ⟨c1, d1, f1, e1⟩ := i1.all; replace i2 := IB.below i2 hb; obtain ⟨c2, d2, f2, e2⟩ := i2.all; clear hb)
    refine bodyPost_ret (v := .agg #[.int .i64 (-2147483648), .int .i64 (2147483647)]) ?_ rfl ⟨ret_e e, ?_⟩
    · have k0 := ((i2.set0 (-2147483648)).set1 (2147483647)).c0
      have k1 := ((i2.set0 (-2147483648)).set1 (2147483647)).c1
      simp [results, Try.results27, go_sem, k0, k1]
    · exact below_set (below_set hB (by omega) _) (by omega) _
theorem rd_8 (a b c d p q r s : Int) (w : World) (hpq : fixP a b = (p, q)) (hrs : fixP c d = (r, s)) (h1 : eqI p q 1 0 = false) (h2 : eqI r s 1 0 = false) (b0 : -2147483648 ≤ p) (b1 : p ≤ 2147483647) (b2 : -2147483648 ≤ q) (b3 : q ≤ 2147483647) (b4 : -2147483648 ≤ r) (b5 : r ≤ 2147483647) (b6 : -2147483648 ≤ s) (b7 : s ≤ 2147483647) (lp : p ≤ q) (lr : r ≤ s) :
    Calls Try.prog 27 #[.int .i64 8, .agg #[.int .i64 a, .int .i64 b], .agg #[.int .i64 c, .int .i64 d]] w fun e w' => e = .returned (.agg #[.int .i64 (do1F 8 p q r s).1, .int .i64 (do1F 8 p q r s).2]) ∧ Below w.heap.size w w' := by
  have Hpq := Lib.hid hpq; have Hrs := Lib.hid hrs; clear hpq hrs
  go_enter Try.func27, Try.ntmps27
  go_wp2_with fail
  refine o_start (S := (fun w' => Below w.heap.size w w' ∧ IB w' (w.heap.size) (a) (b) ∧ IB w' (w.heap.size + 1) (c) (d) ∧ IB w' (w.heap.size + 2) (0) (0))) (ds := [4, 5]) (.cons 0 1 (.cons 2 1 (.cons 1 2 (.cons 3 2 (.cons 4 3 (.cons 5 3 .nil)))))) (by kernel_rfl) (by kernel_rfl) (fun _ _ d _ _ h => by cases d <;> exact h) ⟨((((Below.refl _ _).alloc (Nat.le_refl _) _).alloc (by simp) _).alloc (by simp; omega) _).drew, (((IB.new w a b).alloc _).alloc _).drew, ((IB.at (by simp) c d).alloc _).drew, (IB.at (by simp) 0 0).drew⟩ (fun w1 hS => ?_)
  repeat' (first
    | (refine o_off (a' := ?_) rfl rfl (by rfl) ?_ ?_; rotate_left; (focus (simp only [Act.put, sA, sB, sC, i64_w, i32_w]; rfl)))
    | (refine o_pure (v := ?_) (a' := ?_) rfl rfl (by rfl) ?_ ?_ ?_; rotate_left 2; (focus (intro w'; go_simp; with_reducible rfl)); (focus (simp only [Act.put, sA, sB, sC, i64_w, i32_w]; rfl)))
    | (refine o_loadoff (a' := ?_) rfl rfl (by rfl) hS ?_ ?_; rotate_left; (focus (simp only [Act.put, sA, sB, sC, i64_w, i32_w]; rfl)))
    | (refine o_load (v := ?_) (a' := ?_) rfl rfl (by rfl) hS ?_ ?_ ?_; rotate_left 2; (focus (rintro w' ⟨_, i0, i1, i2⟩; have c0 := i0.c0; have d0 := i0.c1; have c1 := i1.c0; have d1 := i1.c1; have c2 := i2.c0; have d2 := i2.c1; go_simp; with_reducible rfl)); (focus (simp only [Act.put, sA, sB, sC, i64_w, i32_w]; rfl)))
    | (refine o_one rfl ?_)
    | (refine o_fork2 rfl rfl ?_ ?_)
    | (refine s_off (a' := ?_) rfl (by rfl) hS ?_ ?_; rotate_left; (focus (simp only [Act.put, sA, sB, sC, i64_w, i32_w]; rfl)))
    | (refine s_call (f := 46) (a' := ?_) rfl (by rfl) rfl Try.func46 (by kernel_rfl) rfl (form_as Hpq.out _) (by (try simp only [List.map_toArray, List.map_cons, List.map_nil]); first | done | rfl) (fun w' hb => ⟨below_call hS.1 hb, IB.below hS.2.1 hb, IB.below hS.2.2.1 hb, IB.below hS.2.2.2 hb⟩) ?_ ?_; rotate_left; (focus (simp only [Act.put, sA, sB, sC, i64_w, i32_w]; rfl)); clear hS; intro w1 hb hS; clear hb)
    | (refine s_call (f := 46) (a' := ?_) rfl (by rfl) rfl Try.func46 (by kernel_rfl) rfl (form_as Hrs.out _) (by (try simp only [List.map_toArray, List.map_cons, List.map_nil]); first | done | rfl) (fun w' hb => ⟨below_call hS.1 hb, IB.below hS.2.1 hb, IB.below hS.2.2.1 hb, IB.below hS.2.2.2 hb⟩) ?_ ?_; rotate_left; (focus (simp only [Act.put, sA, sB, sC, i64_w, i32_w]; rfl)); clear hS; intro w1 hb hS; clear hb))
  obtain ⟨hB, i0, i1, i2⟩ := hS
  have c0 := i0.c0; have d0 := i0.c1; have c1 := i1.c0; have d1 := i1.c1; have c2 := i2.c0; have d2 := i2.c1; 
  have f0 := i0.f0 0; have e0 := i0.f0 1
  have f1 := i1.f0 0; have e1 := i1.f0 1
  have f2 := i2.f0 0; have e2 := i2.f0 1
  (refine o_store (w1 := ?_) rfl rfl (by rfl) ?_ ?_; rotate_left; (focus (go_simp; rfl)))
  (refine o_store (w1 := ?_) rfl rfl (by rfl) ?_ ?_; rotate_left; (focus (go_simp; rfl)))
  refine o_close (S' := (fun w' => Below w.heap.size w w' ∧ IB w' (w.heap.size) (p) (q) ∧ IB w' (w.heap.size + 1) (r) (s) ∧ IB w' (w.heap.size + 2) (0) (0))) ⟨below_set (below_set (below_set (below_set hB (by omega) _) (by omega) _) (by omega) _) (by omega) _, ((((i0.set0 p).set1 q).far (by omega) _).far (by omega) _), (((((i1.far (by omega) _).far (by omega) _).set0 r)).set1 s), ((((i2.far (by omega) _).far (by omega) _).far (by omega) _).far (by omega) _)⟩ (fun w2 hS => ?_)
  clear i0 c0 d0 f0 e0 i1 c1 d1 f1 e1 i2 c2 d2 f2 e2 hB
  obtain ⟨hB, i0, i1, i2⟩ := hS
  have c0 := i0.c0; have d0 := i0.c1; have c1 := i1.c0; have d1 := i1.c1; have c2 := i2.c0; have d2 := i2.c1; 
  have f0 := i0.f0 0; have e0 := i0.f0 1
  have f1 := i1.f0 0; have e1 := i1.f0 1
  have f2 := i2.f0 0; have e2 := i2.f0 1
  go_wp2_with fail
  refine o_start (S := (fun w' => Below w.heap.size w w' ∧ IB w' (w.heap.size) (p) (q) ∧ IB w' (w.heap.size + 1) (r) (s) ∧ IB w' (w.heap.size + 2) (0) (0))) (ds := []) (.cons 0 1 (.cons 1 2 (.cons 2 0 (.cons 3 0 (.cons 4 1 (.cons 5 2 (.cons 6 0 (.cons 7 0 .nil)))))))) (by kernel_rfl) (by kernel_rfl) (fun _ _ d _ _ h => by cases d <;> exact h) ⟨hB.drew, i0.drew, i1.drew, i2.drew⟩ (fun w1 hS => ?_)
  clear hB i0 c0 d0 f0 e0 i1 c1 d1 f1 e1 i2 c2 d2 f2 e2
  repeat' (first
    | (refine o_off (a' := ?_) rfl rfl (by rfl) ?_ ?_; rotate_left; (focus (simp only [Act.put, sA, sB, sC, i64_w, i32_w]; rfl)))
    | (refine o_pure (v := ?_) (a' := ?_) rfl rfl (by rfl) ?_ ?_ ?_; rotate_left 2; (focus (intro w'; go_simp; with_reducible rfl)); (focus (simp only [Act.put, sA, sB, sC, i64_w, i32_w]; rfl)))
    | (refine o_loadoff (a' := ?_) rfl rfl (by rfl) hS ?_ ?_; rotate_left; (focus (simp only [Act.put, sA, sB, sC, i64_w, i32_w]; rfl)))
    | (refine o_load (v := ?_) (a' := ?_) rfl rfl (by rfl) hS ?_ ?_ ?_; rotate_left 2; (focus (rintro w' ⟨_, i0, i1, i2⟩; have c0 := i0.c0; have d0 := i0.c1; have c1 := i1.c0; have d1 := i1.c1; have c2 := i2.c0; have d2 := i2.c1; go_simp; with_reducible rfl)); (focus (simp only [Act.put, sA, sB, sC, i64_w, i32_w]; rfl)))
    | (refine o_one rfl ?_)
    | (refine o_fork2 rfl rfl ?_ ?_)
    | (refine s_off (a' := ?_) rfl (by rfl) hS ?_ ?_; rotate_left; (focus (simp only [Act.put, sA, sB, sC, i64_w, i32_w]; rfl)))
    | (refine s_call (f := 13) (a' := ?_) rfl (by rfl) rfl Try.func13 (by kernel_rfl) rfl (rnone_any _) (by (try simp only [List.map_toArray, List.map_cons, List.map_nil]); first | done | rfl) (fun w' hb => ⟨below_call hS.1 hb, IB.below hS.2.1 hb, IB.below hS.2.2.1 hb, IB.below hS.2.2.2 hb⟩) ?_ ?_; rotate_left; (focus (simp only [Act.put, sA, sB, sC, i64_w, i32_w]; rfl)); clear hS; intro w1 hb hS; clear hb))
  refine o_done ?_
  obtain ⟨hB, i0, i1, i2⟩ := hS
  have c0 := i0.c0; have d0 := i0.c1; have c1 := i1.c0; have d1 := i1.c1; have c2 := i2.c0; have d2 := i2.c1; 
  have f0 := i0.f0 0; have e0 := i0.f0 1
  have f1 := i1.f0 0; have e1 := i1.f0 1
  have f2 := i2.f0 0; have e2 := i2.f0 1
  go_wp2_with fail
  refine o_start (S := (fun w' => Below w.heap.size w w' ∧ IB w' (w.heap.size) (p) (q) ∧ IB w' (w.heap.size + 1) (r) (s) ∧ IB w' (w.heap.size + 2) (0) (0))) (ds := []) (.cons 0 0 (.cons 1 1 (.cons 2 0 (.cons 3 1 (.cons 4 0 (.cons 5 1 (.cons 6 0 (.cons 7 1 (.cons 8 0 (.cons 9 0 (.cons 10 0 (.cons 11 0 .nil)))))))))))) (by kernel_rfl) (by kernel_rfl) (fun _ _ d _ _ h => by cases d <;> exact h) ⟨hB.drew, i0.drew, i1.drew, i2.drew⟩ (fun w1 hS => ?_)
  clear hB i0 c0 d0 f0 e0 i1 c1 d1 f1 e1 i2 c2 d2 f2 e2
  repeat' (first
    | (refine o_off (a' := ?_) rfl rfl (by rfl) ?_ ?_; rotate_left; (focus (simp only [Act.put, sA, sB, sC, i64_w, i32_w]; rfl)))
    | (refine o_pure (v := ?_) (a' := ?_) rfl rfl (by rfl) ?_ ?_ ?_; rotate_left 2; (focus (intro w'; go_simp; with_reducible rfl)); (focus (simp only [Act.put, sA, sB, sC, i64_w, i32_w]; rfl)))
    | (refine o_loadoff (a' := ?_) rfl rfl (by rfl) hS ?_ ?_; rotate_left; (focus (simp only [Act.put, sA, sB, sC, i64_w, i32_w]; rfl)))
    | (refine o_load (v := ?_) (a' := ?_) rfl rfl (by rfl) hS ?_ ?_ ?_; rotate_left 2; (focus (rintro w' ⟨_, i0, i1, i2⟩; have c0 := i0.c0; have d0 := i0.c1; have c1 := i1.c0; have d1 := i1.c1; have c2 := i2.c0; have d2 := i2.c1; go_simp; with_reducible rfl)); (focus (simp only [Act.put, sA, sB, sC, i64_w, i32_w]; rfl)))
    | (refine o_one rfl ?_)
    | (refine o_fork2 rfl rfl ?_ ?_)
    | (refine s_off (a' := ?_) rfl (by rfl) hS ?_ ?_; rotate_left; (focus (simp only [Act.put, sA, sB, sC, i64_w, i32_w]; rfl))))
  refine o_done ?_
  obtain ⟨hB, i0, i1, i2⟩ := hS
  have c0 := i0.c0; have d0 := i0.c1; have c1 := i1.c0; have d1 := i1.c1; have c2 := i2.c0; have d2 := i2.c1; 
  have f0 := i0.f0 0; have e0 := i0.f0 1
  have f1 := i1.f0 0; have e1 := i1.f0 1
  have f2 := i2.f0 0; have e2 := i2.f0 1
  by_cases h3 : 0 ≤ p
  · by_cases h4 : 0 ≤ r
    · have mq := mx_le q s
      have m0 : 0 ≤ mxI q s := by omega
      have m1 : mxI q s ≤ 2147483647 := by unfold mxI; split <;> omega
      have m3 := maskG_ge 0 (mxI q s) (by omega)
      have m4 : 0 ≤ maskG 0 (mxI q s) := by omega
      have e : do1F 8 p q r s = made 0 (maskG 0 (mxI q s)) := by
        have e0 : do1F 8 p q r s = bitF 8 p q r s := rfl
        rw [e0]; unfold bitF; rw [if_pos ⟨h3, h4⟩, if_neg (by decide), if_neg (by decide), made_le m4]
      go_wp2_with (first | (go_at_call 51; refine (bits_any _ (by omega) (by omega) _).mono ?_; rintro e w3 ⟨rfl, hb⟩; replace hB := below_call hB hb; replace i0 := IB.below i0 hb; obtain ⟨c0, d0, f0, e0⟩ := i0.all; replace i1 := IB.below i1 hb; obtain ⟨c1, d1, f1, e1⟩ := i1.all; replace i2 := IB.below i2 hb; obtain ⟨c2, d2, f2, e2⟩ := i2.all; clear hb) | (go_at_call 48; refine (rof_any _ _ _).mono ?_; rintro e w3 ⟨rfl, hb⟩; replace hB := below_call hB hb; replace i0 := IB.below i0 hb; obtain ⟨c0, d0, f0, e0⟩ := i0.all; replace i1 := IB.below i1 hb; obtain ⟨c1, d1, f1, e1⟩ := i1.all; replace i2 := IB.below i2 hb; obtain ⟨c2, d2, f2, e2⟩ := i2.all; clear hb))
      refine bodyPost_ret (v := .agg #[.int .i64 ((made 0 (maskG 0 (mxI q s))).1), .int .i64 ((made 0 (maskG 0 (mxI q s))).2)]) ?_ rfl ⟨ret_e e, ?_⟩
      · have k0 := ((i2.set0 ((made 0 (maskG 0 (mxI q s))).1)).set1 ((made 0 (maskG 0 (mxI q s))).2)).c0
        have k1 := ((i2.set0 ((made 0 (maskG 0 (mxI q s))).1)).set1 ((made 0 (maskG 0 (mxI q s))).2)).c1
        simp [results, Try.results27, go_sem, k0, k1]
      · exact below_set (below_set hB (by omega) _) (by omega) _
    · have e : do1F 8 p q r s = allP := by
        have e0 : do1F 8 p q r s = bitF 8 p q r s := rfl
        rw [e0]; unfold bitF; rw [if_neg (fun h => h4 h.2), if_neg (by omega), if_neg (by omega)]; rfl
      go_wp2_with (go_at_call 11; refine (rall_any _).mono ?_; rintro e w3 ⟨rfl, hb⟩; replace hB := below_call hB hb; replace i0 := IB.below i0 hb; obtain ⟨c0, d0, f0, e0⟩ := i0.all; replace i1 := IB.below i1 hb; obtain ⟨c1, d1, f1, e1⟩ := i1.all; replace i2 := IB.below i2 hb; obtain ⟨c2, d2, f2, e2⟩ := i2.all; clear hb)
      refine bodyPost_ret (v := .agg #[.int .i64 (-2147483648), .int .i64 (2147483647)]) ?_ rfl ⟨ret_e e, ?_⟩
      · have k0 := ((i2.set0 (-2147483648)).set1 (2147483647)).c0
        have k1 := ((i2.set0 (-2147483648)).set1 (2147483647)).c1
        simp [results, Try.results27, go_sem, k0, k1]
      · exact below_set (below_set hB (by omega) _) (by omega) _
  · have e : do1F 8 p q r s = allP := by
      have e0 : do1F 8 p q r s = bitF 8 p q r s := rfl
      rw [e0]; unfold bitF; rw [if_neg (fun h => h3 h.1), if_neg (by omega), if_neg (by omega)]; rfl
    go_wp2_with (go_at_call 11; refine (rall_any _).mono ?_; rintro e w3 ⟨rfl, hb⟩; replace hB := below_call hB hb; replace i0 := IB.below i0 hb; obtain ⟨c0, d0, f0, e0⟩ := i0.all; replace i1 := IB.below i1 hb; obtain ⟨c1, d1, f1, e1⟩ := i1.all; replace i2 := IB.below i2 hb; obtain ⟨c2, d2, f2, e2⟩ := i2.all; clear hb)
    refine bodyPost_ret (v := .agg #[.int .i64 (-2147483648), .int .i64 (2147483647)]) ?_ rfl ⟨ret_e e, ?_⟩
    · have k0 := ((i2.set0 (-2147483648)).set1 (2147483647)).c0
      have k1 := ((i2.set0 (-2147483648)).set1 (2147483647)).c1
      simp [results, Try.results27, go_sem, k0, k1]
    · exact below_set (below_set hB (by omega) _) (by omega) _
theorem rd_9 (a b c d p q r s : Int) (w : World) (hpq : fixP a b = (p, q)) (hrs : fixP c d = (r, s)) (h1 : eqI p q 1 0 = false) (h2 : eqI r s 1 0 = false) (b0 : -2147483648 ≤ p) (b1 : p ≤ 2147483647) (b2 : -2147483648 ≤ q) (b3 : q ≤ 2147483647) (b4 : -2147483648 ≤ r) (b5 : r ≤ 2147483647) (b6 : -2147483648 ≤ s) (b7 : s ≤ 2147483647) (lp : p ≤ q) (lr : r ≤ s) :
    Calls Try.prog 27 #[.int .i64 9, .agg #[.int .i64 a, .int .i64 b], .agg #[.int .i64 c, .int .i64 d]] w fun e w' => e = .returned (.agg #[.int .i64 (do1F 9 p q r s).1, .int .i64 (do1F 9 p q r s).2]) ∧ Below w.heap.size w w' := by
  have Hpq := Lib.hid hpq; have Hrs := Lib.hid hrs; clear hpq hrs
  go_enter Try.func27, Try.ntmps27
  go_wp2_with fail
  refine o_start (S := (fun w' => Below w.heap.size w w' ∧ IB w' (w.heap.size) (a) (b) ∧ IB w' (w.heap.size + 1) (c) (d) ∧ IB w' (w.heap.size + 2) (0) (0))) (ds := [4, 5]) (.cons 0 1 (.cons 2 1 (.cons 1 2 (.cons 3 2 (.cons 4 3 (.cons 5 3 .nil)))))) (by kernel_rfl) (by kernel_rfl) (fun _ _ d _ _ h => by cases d <;> exact h) ⟨((((Below.refl _ _).alloc (Nat.le_refl _) _).alloc (by simp) _).alloc (by simp; omega) _).drew, (((IB.new w a b).alloc _).alloc _).drew, ((IB.at (by simp) c d).alloc _).drew, (IB.at (by simp) 0 0).drew⟩ (fun w1 hS => ?_)
  repeat' (first
    | (refine o_off (a' := ?_) rfl rfl (by rfl) ?_ ?_; rotate_left; (focus (simp only [Act.put, sA, sB, sC, i64_w, i32_w]; rfl)))
    | (refine o_pure (v := ?_) (a' := ?_) rfl rfl (by rfl) ?_ ?_ ?_; rotate_left 2; (focus (intro w'; go_simp; with_reducible rfl)); (focus (simp only [Act.put, sA, sB, sC, i64_w, i32_w]; rfl)))
    | (refine o_loadoff (a' := ?_) rfl rfl (by rfl) hS ?_ ?_; rotate_left; (focus (simp only [Act.put, sA, sB, sC, i64_w, i32_w]; rfl)))
    | (refine o_load (v := ?_) (a' := ?_) rfl rfl (by rfl) hS ?_ ?_ ?_; rotate_left 2; (focus (rintro w' ⟨_, i0, i1, i2⟩; have c0 := i0.c0; have d0 := i0.c1; have c1 := i1.c0; have d1 := i1.c1; have c2 := i2.c0; have d2 := i2.c1; go_simp; with_reducible rfl)); (focus (simp only [Act.put, sA, sB, sC, i64_w, i32_w]; rfl)))
    | (refine o_one rfl ?_)
    | (refine o_fork2 rfl rfl ?_ ?_)
    | (refine s_off (a' := ?_) rfl (by rfl) hS ?_ ?_; rotate_left; (focus (simp only [Act.put, sA, sB, sC, i64_w, i32_w]; rfl)))
    | (refine s_call (f := 46) (a' := ?_) rfl (by rfl) rfl Try.func46 (by kernel_rfl) rfl (form_as Hpq.out _) (by (try simp only [List.map_toArray, List.map_cons, List.map_nil]); first | done | rfl) (fun w' hb => ⟨below_call hS.1 hb, IB.below hS.2.1 hb, IB.below hS.2.2.1 hb, IB.below hS.2.2.2 hb⟩) ?_ ?_; rotate_left; (focus (simp only [Act.put, sA, sB, sC, i64_w, i32_w]; rfl)); clear hS; intro w1 hb hS; clear hb)
    | (refine s_call (f := 46) (a' := ?_) rfl (by rfl) rfl Try.func46 (by kernel_rfl) rfl (form_as Hrs.out _) (by (try simp only [List.map_toArray, List.map_cons, List.map_nil]); first | done | rfl) (fun w' hb => ⟨below_call hS.1 hb, IB.below hS.2.1 hb, IB.below hS.2.2.1 hb, IB.below hS.2.2.2 hb⟩) ?_ ?_; rotate_left; (focus (simp only [Act.put, sA, sB, sC, i64_w, i32_w]; rfl)); clear hS; intro w1 hb hS; clear hb))
  obtain ⟨hB, i0, i1, i2⟩ := hS
  have c0 := i0.c0; have d0 := i0.c1; have c1 := i1.c0; have d1 := i1.c1; have c2 := i2.c0; have d2 := i2.c1; 
  have f0 := i0.f0 0; have e0 := i0.f0 1
  have f1 := i1.f0 0; have e1 := i1.f0 1
  have f2 := i2.f0 0; have e2 := i2.f0 1
  (refine o_store (w1 := ?_) rfl rfl (by rfl) ?_ ?_; rotate_left; (focus (go_simp; rfl)))
  (refine o_store (w1 := ?_) rfl rfl (by rfl) ?_ ?_; rotate_left; (focus (go_simp; rfl)))
  refine o_close (S' := (fun w' => Below w.heap.size w w' ∧ IB w' (w.heap.size) (p) (q) ∧ IB w' (w.heap.size + 1) (r) (s) ∧ IB w' (w.heap.size + 2) (0) (0))) ⟨below_set (below_set (below_set (below_set hB (by omega) _) (by omega) _) (by omega) _) (by omega) _, ((((i0.set0 p).set1 q).far (by omega) _).far (by omega) _), (((((i1.far (by omega) _).far (by omega) _).set0 r)).set1 s), ((((i2.far (by omega) _).far (by omega) _).far (by omega) _).far (by omega) _)⟩ (fun w2 hS => ?_)
  clear i0 c0 d0 f0 e0 i1 c1 d1 f1 e1 i2 c2 d2 f2 e2 hB
  obtain ⟨hB, i0, i1, i2⟩ := hS
  have c0 := i0.c0; have d0 := i0.c1; have c1 := i1.c0; have d1 := i1.c1; have c2 := i2.c0; have d2 := i2.c1; 
  have f0 := i0.f0 0; have e0 := i0.f0 1
  have f1 := i1.f0 0; have e1 := i1.f0 1
  have f2 := i2.f0 0; have e2 := i2.f0 1
  go_wp2_with fail
  refine o_start (S := (fun w' => Below w.heap.size w w' ∧ IB w' (w.heap.size) (p) (q) ∧ IB w' (w.heap.size + 1) (r) (s) ∧ IB w' (w.heap.size + 2) (0) (0))) (ds := []) (.cons 0 1 (.cons 1 2 (.cons 2 0 (.cons 3 0 (.cons 4 1 (.cons 5 2 (.cons 6 0 (.cons 7 0 .nil)))))))) (by kernel_rfl) (by kernel_rfl) (fun _ _ d _ _ h => by cases d <;> exact h) ⟨hB.drew, i0.drew, i1.drew, i2.drew⟩ (fun w1 hS => ?_)
  clear hB i0 c0 d0 f0 e0 i1 c1 d1 f1 e1 i2 c2 d2 f2 e2
  repeat' (first
    | (refine o_off (a' := ?_) rfl rfl (by rfl) ?_ ?_; rotate_left; (focus (simp only [Act.put, sA, sB, sC, i64_w, i32_w]; rfl)))
    | (refine o_pure (v := ?_) (a' := ?_) rfl rfl (by rfl) ?_ ?_ ?_; rotate_left 2; (focus (intro w'; go_simp; with_reducible rfl)); (focus (simp only [Act.put, sA, sB, sC, i64_w, i32_w]; rfl)))
    | (refine o_loadoff (a' := ?_) rfl rfl (by rfl) hS ?_ ?_; rotate_left; (focus (simp only [Act.put, sA, sB, sC, i64_w, i32_w]; rfl)))
    | (refine o_load (v := ?_) (a' := ?_) rfl rfl (by rfl) hS ?_ ?_ ?_; rotate_left 2; (focus (rintro w' ⟨_, i0, i1, i2⟩; have c0 := i0.c0; have d0 := i0.c1; have c1 := i1.c0; have d1 := i1.c1; have c2 := i2.c0; have d2 := i2.c1; go_simp; with_reducible rfl)); (focus (simp only [Act.put, sA, sB, sC, i64_w, i32_w]; rfl)))
    | (refine o_one rfl ?_)
    | (refine o_fork2 rfl rfl ?_ ?_)
    | (refine s_off (a' := ?_) rfl (by rfl) hS ?_ ?_; rotate_left; (focus (simp only [Act.put, sA, sB, sC, i64_w, i32_w]; rfl)))
    | (refine s_call (f := 13) (a' := ?_) rfl (by rfl) rfl Try.func13 (by kernel_rfl) rfl (rnone_any _) (by (try simp only [List.map_toArray, List.map_cons, List.map_nil]); first | done | rfl) (fun w' hb => ⟨below_call hS.1 hb, IB.below hS.2.1 hb, IB.below hS.2.2.1 hb, IB.below hS.2.2.2 hb⟩) ?_ ?_; rotate_left; (focus (simp only [Act.put, sA, sB, sC, i64_w, i32_w]; rfl)); clear hS; intro w1 hb hS; clear hb))
  refine o_done ?_
  obtain ⟨hB, i0, i1, i2⟩ := hS
  have c0 := i0.c0; have d0 := i0.c1; have c1 := i1.c0; have d1 := i1.c1; have c2 := i2.c0; have d2 := i2.c1; 
  have f0 := i0.f0 0; have e0 := i0.f0 1
  have f1 := i1.f0 0; have e1 := i1.f0 1
  have f2 := i2.f0 0; have e2 := i2.f0 1
  go_wp2_with fail
  refine o_start (S := (fun w' => Below w.heap.size w w' ∧ IB w' (w.heap.size) (p) (q) ∧ IB w' (w.heap.size + 1) (r) (s) ∧ IB w' (w.heap.size + 2) (0) (0))) (ds := []) (.cons 0 0 (.cons 1 1 (.cons 2 0 (.cons 3 1 (.cons 4 0 (.cons 5 1 (.cons 6 0 (.cons 7 1 (.cons 8 0 (.cons 9 0 (.cons 10 0 (.cons 11 0 .nil)))))))))))) (by kernel_rfl) (by kernel_rfl) (fun _ _ d _ _ h => by cases d <;> exact h) ⟨hB.drew, i0.drew, i1.drew, i2.drew⟩ (fun w1 hS => ?_)
  clear hB i0 c0 d0 f0 e0 i1 c1 d1 f1 e1 i2 c2 d2 f2 e2
  repeat' (first
    | (refine o_off (a' := ?_) rfl rfl (by rfl) ?_ ?_; rotate_left; (focus (simp only [Act.put, sA, sB, sC, i64_w, i32_w]; rfl)))
    | (refine o_pure (v := ?_) (a' := ?_) rfl rfl (by rfl) ?_ ?_ ?_; rotate_left 2; (focus (intro w'; go_simp; with_reducible rfl)); (focus (simp only [Act.put, sA, sB, sC, i64_w, i32_w]; rfl)))
    | (refine o_loadoff (a' := ?_) rfl rfl (by rfl) hS ?_ ?_; rotate_left; (focus (simp only [Act.put, sA, sB, sC, i64_w, i32_w]; rfl)))
    | (refine o_load (v := ?_) (a' := ?_) rfl rfl (by rfl) hS ?_ ?_ ?_; rotate_left 2; (focus (rintro w' ⟨_, i0, i1, i2⟩; have c0 := i0.c0; have d0 := i0.c1; have c1 := i1.c0; have d1 := i1.c1; have c2 := i2.c0; have d2 := i2.c1; go_simp; with_reducible rfl)); (focus (simp only [Act.put, sA, sB, sC, i64_w, i32_w]; rfl)))
    | (refine o_one rfl ?_)
    | (refine o_fork2 rfl rfl ?_ ?_)
    | (refine s_off (a' := ?_) rfl (by rfl) hS ?_ ?_; rotate_left; (focus (simp only [Act.put, sA, sB, sC, i64_w, i32_w]; rfl))))
  refine o_done ?_
  obtain ⟨hB, i0, i1, i2⟩ := hS
  have c0 := i0.c0; have d0 := i0.c1; have c1 := i1.c0; have d1 := i1.c1; have c2 := i2.c0; have d2 := i2.c1; 
  have f0 := i0.f0 0; have e0 := i0.f0 1
  have f1 := i1.f0 0; have e1 := i1.f0 1
  have f2 := i2.f0 0; have e2 := i2.f0 1
  by_cases g3 : r = s
  · have h3 : (r == s) = true := by simpa using g3
    have G3 := Lib.hid g3; clear g3
    by_cases h4 : 0 ≤ r
    · by_cases h5 : r ≤ 31
      · have y0 := w64_shl b0 b1 h5; have y1 := w64_shl b2 b3 h5
        by_cases h6 : 0 ≤ p
        · have pb := pow_bd (k := r.toNat) (by omega)
          have pm : p * 2 ^ r.toNat ≤ q * 2 ^ r.toNat := Int.mul_le_mul_of_nonneg_right lp (by omega)
          clear pb
          by_cases h7 : q * 2 ^ r.toNat ≤ 2147483647
          · have e : do1F 9 p q r s = made (p * 2 ^ r.toNat) (q * 2 ^ r.toNat) := ((do1F_9 p q r s).trans <| if_pos ⟨G3.out, h4, h5, h6, h7⟩).trans (made_le pm).symm
            clear pm
            go_wp2_with (go_at_call 48; refine (rof_any _ _ _).mono ?_; rintro e w3 ⟨rfl, hb⟩; replace hB := below_call hB hb; replace i0 := IB.below i0 hb; obtain ⟨c0, d0, f0, e0⟩ := i0.all; replace i1 := IB.below i1 hb; obtain ⟨c1, d1, f1, e1⟩ := i1.all; replace i2 := IB.below i2 hb; obtain ⟨c2, d2, f2, e2⟩ := i2.all; clear hb)
            refine bodyPost_ret (v := .agg #[.int .i64 ((made (p * 2 ^ r.toNat) (q * 2 ^ r.toNat)).1), .int .i64 ((made (p * 2 ^ r.toNat) (q * 2 ^ r.toNat)).2)]) ?_ rfl ⟨ret_e e, ?_⟩
            · have k0 := ((i2.set0 ((made (p * 2 ^ r.toNat) (q * 2 ^ r.toNat)).1)).set1 ((made (p * 2 ^ r.toNat) (q * 2 ^ r.toNat)).2)).c0
              have k1 := ((i2.set0 ((made (p * 2 ^ r.toNat) (q * 2 ^ r.toNat)).1)).set1 ((made (p * 2 ^ r.toNat) (q * 2 ^ r.toNat)).2)).c1
              simp [results, Try.results27, go_sem, k0, k1]
            · exact below_set (below_set hB (by omega) _) (by omega) _
          · have e : do1F 9 p q r s = allP := (do1F_9 p q r s).trans <| if_neg (fun h => h7 h.2.2.2.2)
            go_wp2_with (go_at_call 11; refine (rall_any _).mono ?_; rintro e w3 ⟨rfl, hb⟩; replace hB := below_call hB hb; replace i0 := IB.below i0 hb; obtain ⟨c0, d0, f0, e0⟩ := i0.all; replace i1 := IB.below i1 hb; obtain ⟨c1, d1, f1, e1⟩ := i1.all; replace i2 := IB.below i2 hb; obtain ⟨c2, d2, f2, e2⟩ := i2.all; clear hb)
            refine bodyPost_ret (v := .agg #[.int .i64 (-2147483648), .int .i64 (2147483647)]) ?_ rfl ⟨ret_e e, ?_⟩
            · have k0 := ((i2.set0 (-2147483648)).set1 (2147483647)).c0
              have k1 := ((i2.set0 (-2147483648)).set1 (2147483647)).c1
              simp [results, Try.results27, go_sem, k0, k1]
            · exact below_set (below_set hB (by omega) _) (by omega) _
        · have e : do1F 9 p q r s = allP := (do1F_9 p q r s).trans <| if_neg (fun h => h6 h.2.2.2.1)
          go_wp2_with (go_at_call 11; refine (rall_any _).mono ?_; rintro e w3 ⟨rfl, hb⟩; replace hB := below_call hB hb; replace i0 := IB.below i0 hb; obtain ⟨c0, d0, f0, e0⟩ := i0.all; replace i1 := IB.below i1 hb; obtain ⟨c1, d1, f1, e1⟩ := i1.all; replace i2 := IB.below i2 hb; obtain ⟨c2, d2, f2, e2⟩ := i2.all; clear hb)
          refine bodyPost_ret (v := .agg #[.int .i64 (-2147483648), .int .i64 (2147483647)]) ?_ rfl ⟨ret_e e, ?_⟩
          · have k0 := ((i2.set0 (-2147483648)).set1 (2147483647)).c0
            have k1 := ((i2.set0 (-2147483648)).set1 (2147483647)).c1
            simp [results, Try.results27, go_sem, k0, k1]
          · exact below_set (below_set hB (by omega) _) (by omega) _
      · have e : do1F 9 p q r s = allP := (do1F_9 p q r s).trans <| if_neg (fun h => h5 h.2.2.1)
        go_wp2_with (go_at_call 11; refine (rall_any _).mono ?_; rintro e w3 ⟨rfl, hb⟩; replace hB := below_call hB hb; replace i0 := IB.below i0 hb; obtain ⟨c0, d0, f0, e0⟩ := i0.all; replace i1 := IB.below i1 hb; obtain ⟨c1, d1, f1, e1⟩ := i1.all; replace i2 := IB.below i2 hb; obtain ⟨c2, d2, f2, e2⟩ := i2.all; clear hb)
        refine bodyPost_ret (v := .agg #[.int .i64 (-2147483648), .int .i64 (2147483647)]) ?_ rfl ⟨ret_e e, ?_⟩
        · have k0 := ((i2.set0 (-2147483648)).set1 (2147483647)).c0
          have k1 := ((i2.set0 (-2147483648)).set1 (2147483647)).c1
          simp [results, Try.results27, go_sem, k0, k1]
        · exact below_set (below_set hB (by omega) _) (by omega) _
    · have e : do1F 9 p q r s = allP := (do1F_9 p q r s).trans <| if_neg (fun h => h4 h.2.1)
      go_wp2_with (go_at_call 11; refine (rall_any _).mono ?_; rintro e w3 ⟨rfl, hb⟩; replace hB := below_call hB hb; replace i0 := IB.below i0 hb; obtain ⟨c0, d0, f0, e0⟩ := i0.all; replace i1 := IB.below i1 hb; obtain ⟨c1, d1, f1, e1⟩ := i1.all; replace i2 := IB.below i2 hb; obtain ⟨c2, d2, f2, e2⟩ := i2.all; clear hb)
      refine bodyPost_ret (v := .agg #[.int .i64 (-2147483648), .int .i64 (2147483647)]) ?_ rfl ⟨ret_e e, ?_⟩
      · have k0 := ((i2.set0 (-2147483648)).set1 (2147483647)).c0
        have k1 := ((i2.set0 (-2147483648)).set1 (2147483647)).c1
        simp [results, Try.results27, go_sem, k0, k1]
      · exact below_set (below_set hB (by omega) _) (by omega) _
  · have h3 : (r == s) = false := by simpa using g3
    have e : do1F 9 p q r s = allP := (do1F_9 p q r s).trans <| if_neg (fun h => g3 h.1)
    go_wp2_with (go_at_call 11; refine (rall_any _).mono ?_; rintro e w3 ⟨rfl, hb⟩; replace hB := below_call hB hb; replace i0 := IB.below i0 hb; obtain ⟨c0, d0, f0, e0⟩ := i0.all; replace i1 := IB.below i1 hb; obtain ⟨c1, d1, f1, e1⟩ := i1.all; replace i2 := IB.below i2 hb; obtain ⟨c2, d2, f2, e2⟩ := i2.all; clear hb)
    refine bodyPost_ret (v := .agg #[.int .i64 (-2147483648), .int .i64 (2147483647)]) ?_ rfl ⟨ret_e e, ?_⟩
    · have k0 := ((i2.set0 (-2147483648)).set1 (2147483647)).c0
      have k1 := ((i2.set0 (-2147483648)).set1 (2147483647)).c1
      simp [results, Try.results27, go_sem, k0, k1]
    · exact below_set (below_set hB (by omega) _) (by omega) _
end Go.Proofs.Ytdooadomkifbbaa
