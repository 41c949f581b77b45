/-
  IntervalTight in plain Lean: what the walk computes is true. Conditions: the kinds of its arguments.
-/
import Derived.Test.YtdooadomkifbbaaWalksX
import Derived.Test.YtdooadomkifbbaaLawA
import Derived.Test.YtdooadomkifbbaaTightPlain
namespace Go.Proofs.YtdooadomkifbbaaG
open Go.RowKit Go.Proofs.Ytdooadomkifbbaa Go.Proofs.YtdooadomkifbbaaW.PrintWords
set_option linter.unusedVariables false

theorem do_val (op : Int) {X Y : Int × Int} (fX : FixQ X) (fY : FixQ Y) : interval_Do.f op X.1 X.2 Y.1 Y.2 = some (doF op X.1 X.2 Y.1 Y.2) := by
  unfold interval_Do.f; rw [fix_of fX, fix_of fY]
theorem w64_small {n : Int} (h0 : -9223372036854775808 ≤ n) (h1 : n ≤ 9223372036854775807) : wrap64 n = n := by unfold wrap64; omega
theorem mx_bd {a b lo hi : Int} (h0 : lo ≤ a) (h1 : a ≤ hi) (h2 : lo ≤ b) (h3 : b ≤ hi) : lo ≤ a ∧ a ≤ mx a b ∧ mx a b ≤ hi := by unfold mx; split <;> omega
theorem tight_j1 {o m n : Int} {X Y : Int × Int} (o0 : 0 ≤ o) (o1 : o ≤ 255) (m0 : 0 ≤ m) (m1 : m ≤ 4294967295) (n0 : 0 ≤ n) (n1 : n ≤ 4294967295)
    (hx : -2147483648 ≤ X.1 ∧ X.1 ≤ X.2 ∧ X.2 ≤ 2147483647) (hy : -2147483648 ≤ Y.1 ∧ Y.1 ≤ Y.2 ∧ Y.2 ≤ 2147483647) :
    PTight.timeboundlaw07_IntervalTight.j1 1 o m n false X.1 X.2 Y.1 Y.2 = some true := by
  simp only [PTight.timeboundlaw07_IntervalTight.j1]
  rw [op14 o0 o1, if_neg (by decide), inside_val hx m0 m1, inside_val hy n0 n1, inside_val hx n0 n1, inside_val hy m0 m1]
  simp only [Option.bind_some]
  have a := inside_bd m hx.2.1
  have a' := inside_bd n hx.2.1
  have b := inside_bd n hy.2.1
  have b' := inside_bd m hy.2.1
  have ma := mx_bd a.1 a.2 a'.1 a'.2
  have mb := mx_bd b.1 b.2 b'.1 b'.2
  generalize X.1 + m % (X.2 - X.1 + 1) = i at *
  generalize X.1 + n % (X.2 - X.1 + 1) = i' at *
  generalize Y.1 + n % (Y.2 - Y.1 + 1) = k at *
  generalize Y.1 + m % (Y.2 - Y.1 + 1) = k' at *
  have fX : FixQ X := Or.inr hx
  have fY : FixQ Y := Or.inr hy
  have fP : FixQ (i, mx i i') := Or.inr ⟨by simp only; omega, by simp only; omega, by simp only; omega⟩
  have fR : FixQ (k, mx k k') := Or.inr ⟨by simp only; omega, by simp only; omega, by simp only; omega⟩
  rw [show interval_Do.f (1 + o % 14) i (mx i i') k (mx k k') = some (doF (1 + o % 14) i (mx i i') k (mx k k')) from do_val _ fP fR, do_val _ fX fY]
  simp only [Option.bind_some]
  have f1 : FixQ (doF (1 + o % 14) i (mx i i') k (mx k k')) := do_fixed _ fP fR
  have f2 : FixQ (doF (1 + o % 14) X.1 X.2 Y.1 Y.2) := do_fixed _ fX fY
  rw [leq_val f1 f2, leq_do (p := X.1) (q := X.2) (r := Y.1) (s := Y.2) (p' := i) (q' := mx i i') (r' := k) (s' := mx k k') (by omega) (by omega) (by omega) (by omega) (by omega) (by omega) (by omega) (by omega) (by omega) (by omega) (by omega) (by omega) (1 + o % 14) (by omega) (by omega)]
  rfl
theorem tight_j0 {o m n : Int} {X Y : Int × Int} (b : Bool) (o0 : 0 ≤ o) (o1 : o ≤ 255) (m0 : 0 ≤ m) (m1 : m ≤ 4294967295) (n0 : 0 ≤ n) (n1 : n ≤ 4294967295) (fX : FixQ X) (fY : FixQ Y)
    (hb' : b = false → (-2147483648 ≤ X.1 ∧ X.1 ≤ X.2 ∧ X.2 ≤ 2147483647) ∧ -2147483648 ≤ Y.1 ∧ Y.1 ≤ Y.2 ∧ Y.2 ≤ 2147483647) :
    PTight.timeboundlaw07_IntervalTight.j0 2 o m n b X.1 X.2 Y.1 Y.2 = some true := by
  simp only [PTight.timeboundlaw07_IntervalTight.j0]
  cases b
  · obtain ⟨hx, hy⟩ := hb' rfl
    rw [if_neg (by decide), do_val 1 fX fY, do_val 2 fX fY]
    simp only [Option.bind_some]
    rw [w64_small (n := X.1 + Y.1) (by omega) (by omega), w64_small (n := X.2 + Y.2) (by omega) (by omega), w64_small (n := X.1 - Y.2) (by omega) (by omega), w64_small (n := X.2 - Y.1) (by omega) (by omega)]
    have j := tight_j1 o0 o1 m0 m1 n0 n1 hx hy
    have e1 : -2147483648 ≤ X.1 + Y.1 → X.2 + Y.2 < 2147483648 → doF 1 X.1 X.2 Y.1 Y.2 = (X.1 + Y.1, X.2 + Y.2) := by
      intro g1 g2
      rw [doF_ne 1 (by omega) (by omega)]
      show aroundF (mnI (X.1 + Y.1) (X.2 + Y.2)) (mxI (X.1 + Y.1) (X.2 + Y.2)) = _
      have h1 : mnI (X.1 + Y.1) (X.2 + Y.2) = X.1 + Y.1 := by unfold mnI; rw [if_pos (by omega)]
      have h2 : mxI (X.1 + Y.1) (X.2 + Y.2) = X.2 + Y.2 := by unfold mxI; rw [if_pos (by omega)]
      rw [h1, h2]
      unfold aroundF
      rw [if_pos (by simp only [isB, Bool.and_eq_true, decide_eq_true_eq]; omega)]
    have e2 : -2147483648 ≤ X.1 - Y.2 → X.2 - Y.1 < 2147483648 → doF 2 X.1 X.2 Y.1 Y.2 = (X.1 - Y.2, X.2 - Y.1) := by
      intro g1 g2
      rw [doF_ne 2 (by omega) (by omega)]
      show aroundF (mnI (X.1 - Y.2) (X.2 - Y.1)) (mxI (X.1 - Y.2) (X.2 - Y.1)) = _
      have h1 : mnI (X.1 - Y.2) (X.2 - Y.1) = X.1 - Y.2 := by unfold mnI; rw [if_pos (by omega)]
      have h2 : mxI (X.1 - Y.2) (X.2 - Y.1) = X.2 - Y.1 := by unfold mxI; rw [if_pos (by omega)]
      rw [h1, h2]
      unfold aroundF
      rw [if_pos (by simp only [isB, Bool.and_eq_true, decide_eq_true_eq]; omega)]
    have second : (if X.1 - Y.2 ≥ -2147483648 then (if X.2 - Y.1 < 2147483648 then (if (doF 2 X.1 X.2 Y.1 Y.2).1 = X.1 - Y.2 then (PTight.timeboundlaw07_IntervalTight.j1 1 o m n ((doF 2 X.1 X.2 Y.1 Y.2).2 != X.2 - Y.1) X.1 X.2 Y.1 Y.2) else none) else (PTight.timeboundlaw07_IntervalTight.j1 1 o m n false X.1 X.2 Y.1 Y.2)) else (PTight.timeboundlaw07_IntervalTight.j1 1 o m n false X.1 X.2 Y.1 Y.2)) = some true := by
      by_cases g1 : X.1 - Y.2 ≥ -2147483648
      · rw [if_pos g1]
        by_cases g2 : X.2 - Y.1 < 2147483648
        · rw [if_pos g2, e2 g1 g2, if_pos rfl, show ((X.1 - Y.2, X.2 - Y.1).2 != X.2 - Y.1) = false by simp]
          exact j
        · rw [if_neg g2]; exact j
      · rw [if_neg g1]; exact j
    by_cases g1 : X.1 + Y.1 ≥ -2147483648
    · rw [if_pos g1]
      by_cases g2 : X.2 + Y.2 < 2147483648
      · rw [if_pos g2, e1 g1 g2, if_pos rfl, if_pos rfl]
        exact second
      · rw [if_neg g2]; exact second
    · rw [if_neg g1]; exact second
  · rfl
theorem tight_pure {o a b c d h k m n : Int} (o0 : 0 ≤ o) (o1 : o ≤ 255) (a0 : -2147483648 ≤ a) (a1 : a ≤ 2147483647) (b0 : -2147483648 ≤ b) (b1 : b ≤ 2147483647) (c0 : -2147483648 ≤ c) (c1 : c ≤ 2147483647) (d0 : -2147483648 ≤ d) (d1 : d ≤ 2147483647) (h0 : 0 ≤ h) (h1 : h ≤ 255) (k0 : 0 ≤ k) (k1 : k ≤ 255) (m0 : 0 ≤ m) (m1 : m ≤ 4294967295) (n0 : 0 ≤ n) (n1 : n ≤ 4294967295) :
    PTight.timeboundlaw07_IntervalTight.f 2 o a b c d h k m n = some true := by
  unfold PTight.timeboundlaw07_IntervalTight.f interval_None.f
  rw [of_val a0 a1 b0 b1 h0 h1, of_val c0 c1 d0 d1 k0 k1]
  simp only [Option.bind_some]
  have fX : FixQ (ofF a b h) := of_fixed h a0 a1 b0 b1
  have fY : FixQ (ofF c d k) := of_fixed k c0 c1 d0 d1
  generalize ofF a b h = X at *
  generalize ofF c d k = Y at *
  cases q1 : (X.1 == 1 && X.2 == 0)
  · rw [if_neg (by decide)]
    exact tight_j0 _ o0 o1 m0 m1 n0 n1 fX fY (fun z => ⟨non_off fX q1, non_off fY z⟩)
  · rw [if_pos rfl]
    exact tight_j0 true o0 o1 m0 m1 n0 n1 fX fY (fun z => by cases z)
theorem tight_walk (o a b c d h k m n : Int) (o0 : 0 ≤ o) (o1 : o ≤ 255) (a0 : -2147483648 ≤ a) (a1 : a ≤ 2147483647) (b0 : -2147483648 ≤ b) (b1 : b ≤ 2147483647) (c0 : -2147483648 ≤ c) (c1 : c ≤ 2147483647) (d0 : -2147483648 ≤ d) (d1 : d ≤ 2147483647) (h0 : 0 ≤ h) (h1 : h ≤ 255) (k0 : 0 ≤ k) (k1 : k ≤ 255) (m0 : 0 ≤ m) (m1 : m ≤ 4294967295) (n0 : 0 ≤ n) (n1 : n ≤ 4294967295) (w : World) :
    Calls Try.prog 6 #[.int .u8 o, .int .i32 a, .int .i32 b, .int .i32 c, .int .i32 d, .agg #[.int .u8 h, .int .u8 k], .int .u32 m, .int .u32 n] w fun e w' => e = .returned (.bool true) ∧ Below w.heap.size w w' :=
  PTight.timeboundlaw07_IntervalTight.calls 2 o a b c d h k m n true w (tight_pure o0 o1 a0 a1 b0 b1 c0 c1 d0 d1 h0 h1 k0 k1 m0 m1 n0 n1)
end Go.Proofs.YtdooadomkifbbaaG
