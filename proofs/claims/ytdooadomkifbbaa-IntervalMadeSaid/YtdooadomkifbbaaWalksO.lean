/-
  The law's helper 'agree' at all inputs, its examples 'awake', and the walk of IntervalRaw. No condition.
-/
import Derived.Test.YtdooadomkifbbaaWalksM1
import Derived.Test.YtdooadomkifbbaaWalksM2
import Derived.Test.YtdooadomkifbbaaWalksN
namespace Go.Proofs.Ytdooadomkifbbaa
open Go.RowKit
open Go.Proofs.YtdooadomkifbbaaW.PrintLast
attribute [local go_sem high] eqA23
attribute [local go_sem] max2_i min2_i max_2 min_2 max_4 min_4
set_option maxHeartbeats 2000000
set_option maxRecDepth 100000
set_option linter.unusedSimpArgs false
set_option linter.unusedVariables false
attribute [local go_sem] eqI_self
theorem refine_at {a b c d p q r s x1 x2 y1 y2 : Int} (op : Int) (t : Bool) (hpq : fixP a b = (p, q)) (hrs : fixP c d = (r, s)) (h : refF op t p q r s = ((x1, x2), (y1, y2))) (w : World) :
    Calls Try.prog 22 #[.int .i64 op, .bool t, .agg #[.int .i64 a, .int .i64 b], .agg #[.int .i64 c, .int .i64 d]] w fun e w' => e = .returned (.tuple #[.agg #[.int .i64 x1, .int .i64 x2], .agg #[.int .i64 y1, .int .i64 y2]]) ∧ Below w.heap.size w w' := by
  have := refine_as op t hpq hrs w
  rwa [h] at this
theorem rrefine_at {a b c d p q r s x1 x2 y1 y2 : Int} (op : Int) (t : Bool) (hpq : fixP a b = (p, q)) (hrs : fixP c d = (r, s)) (h : refF op t p q r s = ((x1, x2), (y1, y2))) (w : World) :
    Calls Try.prog 26 #[.int .i64 op, .bool t, .agg #[.int .i64 a, .int .i64 b], .agg #[.int .i64 c, .int .i64 d]] w fun e w' => e = .returned (.tuple #[.agg #[.int .i64 x1, .int .i64 x2], .agg #[.int .i64 y1, .int .i64 y2]]) ∧ Below w.heap.size w w' := by
  have := rrefine_as op t hpq hrs w
  rwa [h] at this
theorem do_at {a b c d p q r s x y : Int} (op : Int) (hpq : fixP a b = (p, q)) (hrs : fixP c d = (r, s)) (h : doF op p q r s = (x, y)) (w : World) :
    Calls Try.prog 16 #[.int .i64 op, .agg #[.int .i64 a, .int .i64 b], .agg #[.int .i64 c, .int .i64 d]] w fun e w' => e = .returned (.agg #[.int .i64 x, .int .i64 y]) ∧ Below w.heap.size w w' := by
  have := do_as op hpq hrs w
  rwa [h] at this
theorem agree_any (op : Int) (t : Bool) (a b c d n : Int) (w : World) :
    Calls Try.prog 9 #[.int .i64 op, .bool t, .agg #[.int .i64 a, .int .i64 b], .agg #[.int .i64 c, .int .i64 d], .int .i64 n] w fun e w' => e = .returned (.bool true) ∧ Below w.heap.size w w' := by
  obtain ⟨p, q, hpq, fp⟩ := fix_ex a b
  obtain ⟨r, s, hrs, fr⟩ := fix_ex c d
  exact agree_gen op t a b c d n _ _ _ _ _ _ _ _ _ _ _ _ _ w
    (fun w => refine_as op t hpq hrs w) (fun w => rrefine_as op t hpq hrs w) (fun w => do_as op hpq hrs w) (fun w => rdo_as op hpq hrs w)
    (fun w => join_as hpq hrs w) (fun w => rjoin_as hpq hrs w) (fun w => meet_as hpq hrs w) (fun w => rmeet_as hpq hrs w)
    (fun w => leq_as hpq hrs w) (fun w => rleq_as hpq hrs w) (fun w => has_as n hpq w) (fun w => rhas_as n hpq w) (fun w => valid_any a b w) (fun w => rvalid_any a b w)
theorem aw22 (w : World) : Calls Try.prog 22 #[.int .i64 11, .bool true, .agg #[.int .i64 0, .int .i64 9], .agg #[.int .i64 0, .int .i64 5]] w fun e w' => e = .returned (.tuple #[.agg #[.int .i64 0, .int .i64 4], .agg #[.int .i64 1, .int .i64 5]]) ∧ Below w.heap.size w w' :=
  refine_at (p := 0) (q := 9) (r := 0) (s := 5) 11 true (by decide) (by decide) (by decide) w
theorem aw16 (w : World) : Calls Try.prog 16 #[.int .i64 1, .agg #[.int .i64 1, .int .i64 2], .agg #[.int .i64 10, .int .i64 20]] w fun e w' => e = .returned (.agg #[.int .i64 11, .int .i64 22]) ∧ Below w.heap.size w w' :=
  do_at (p := 1) (q := 2) (r := 10) (s := 20) 1 (by decide) (by decide) (by decide) w
theorem awake_any (w : World) : Calls Try.prog 14 #[] w fun e w' => e = .returned (.bool true) ∧ Below w.heap.size w w' := by
  have k0 : eqI 11 22 11 22 = true := rfl
  have k1 : eqI 0 4 0 4 = true := rfl
  have k2 : eqI 1 5 1 5 = true := rfl
  go_enter Try.func14, Try.ntmps14
  go_wp2_with (first | (go_at_call 22; refine (aw22 _).mono ?_; rintro e w3 ⟨rfl, hb⟩; have hB := hb; clear hb) | (go_at_call 16; refine (aw16 _).mono ?_; rintro e w4 ⟨rfl, hb⟩; have hB2 := below_call ((hB.alloc hB.size (.cells #[.int .i64 0, .int .i64 4] 23)).alloc (by have := hB.size; simp; omega) (.cells #[.int .i64 1, .int .i64 5] 23)) hb; have i0 : IB w4 w3.heap.size 0 4 := ((IB.new w3 0 4).alloc (.cells #[.int .i64 1, .int .i64 5] 23)).below hb; have i1 : IB w4 (w3.heap.size + 1) 1 5 := (IB.at (by simp) 1 5).below hb; have c0 := i0.c0; have d0 := i0.c1; have f0 := i0.f0 0; have e0 := i0.f0 1; have l0 := i0.lt; have c1 := i1.c0; have d1 := i1.c1; have f1 := i1.f0 0; have e1 := i1.f0 1; have l1 := i1.lt; clear hb))
  go_ret
  exact ⟨rfl, hB2⟩
theorem raw_any (op : Int) (t : Bool) (a b c d n : Int) (w : World) : Calls Try.prog 3 #[.int .i64 op, .bool t, .agg #[.int .i64 a, .int .i64 b], .agg #[.int .i64 c, .int .i64 d], .int .i64 n] w fun e w' => e = .returned (.bool true) ∧ Below w.heap.size w w' := by
  have k0 : eqI (-2147483648) 2147483647 (-2147483648) 2147483647 = true := rfl
  have k1 : eqI 1 0 1 0 = true := rfl
  go_enter Try.func3, Try.ntmps3
  go_wp2_with (first | (go_at_call 9; refine (agree_any _ _ _ _ _ _ _ _).mono ?_; rintro e w3 ⟨rfl, hb⟩; have hB := below_call (((Below.refl w.heap.size w).alloc (Nat.le_refl _) _).alloc (by simp) _) hb; clear hb) | (go_at_call 10; refine (all_any _).mono ?_; rintro e w3 ⟨rfl, hb⟩; replace hB := below_call hB hb; clear hb) | (go_at_call 11; refine (rall_any _).mono ?_; rintro e w3 ⟨rfl, hb⟩; replace hB := below_call hB hb; clear hb) | (go_at_call 12; refine (none_any _).mono ?_; rintro e w3 ⟨rfl, hb⟩; replace hB := below_call hB hb; clear hb) | (go_at_call 13; refine (rnone_any _).mono ?_; rintro e w3 ⟨rfl, hb⟩; replace hB := below_call hB hb; clear hb) | (go_at_call 14; refine (awake_any _).mono ?_; rintro e w3 ⟨rfl, hb⟩; replace hB := below_call hB hb; clear hb))
  go_ret
  exact ⟨rfl, hB⟩
end Go.Proofs.Ytdooadomkifbbaa
