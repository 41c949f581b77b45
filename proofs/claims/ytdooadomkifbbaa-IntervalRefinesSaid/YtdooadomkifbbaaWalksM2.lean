/-
  Refine, for all operators and all intervals.
-/
import Derived.Test.YtdooadomkifbbaaPlain4
import Derived.Test.YtdooadomkifbbaaWalksK1
import Derived.Test.YtdooadomkifbbaaWalksK2
import Derived.Test.YtdooadomkifbbaaWalksK3
import Derived.Test.YtdooadomkifbbaaWalksK4
import Derived.Test.YtdooadomkifbbaaWalksK5
import Derived.Test.YtdooadomkifbbaaWalksK6
namespace Go.Proofs.Ytdooadomkifbbaa
open Go.RowKit
open Go.Proofs.YtdooadomkifbbaaW.PrintLast
attribute [local go_sem high] eqA23
attribute [local go_sem] max2_i min2_i max_2 min_2 max_4 min_4
set_option maxHeartbeats 2000000
set_option maxRecDepth 100000
set_option linter.unusedSimpArgs false
set_option linter.unusedVariables false
theorem refine_as {a b c d p q r s : Int} (op : Int) (t : Bool) (hpq : fixP a b = (p, q)) (hrs : fixP c d = (r, s)) (w : World) :
    Calls Try.prog 22 #[.int .i64 op, .bool t, .agg #[.int .i64 a, .int .i64 b], .agg #[.int .i64 c, .int .i64 d]] w fun e w' => e = .returned (.tuple #[.agg #[.int .i64 ((refF op t p q r s).1).1, .int .i64 ((refF op t p q r s).1).2], .agg #[.int .i64 ((refF op t p q r s).2).1, .int .i64 ((refF op t p q r s).2).2]]) ∧ Below w.heap.size w w' := by
  have fp := fixed_as hpq
  have fr := fixed_as hrs
  obtain ⟨b0, b1, b2, b3⟩ := fp.bd
  obtain ⟨b4, b5, b6, b7⟩ := fr.bd
  by_cases o1 : op < 11
  · rw [refF_o1 t p q r s o1]; exact rf_lt op t a b c d p q r s w hpq hrs o1
  by_cases o2 : 14 < op
  · rw [refF_o2 t p q r s o2]; exact rf_gt op t a b c d p q r s w hpq hrs o1 o2
  by_cases g1 : q < p
  · rw [refF_e1 t r s o1 o2 g1]; exact rf_n1 op t a b c d p q r s w hpq hrs o1 o2 (decide_eq_true g1)
  by_cases g2 : s < r
  · rw [refF_e2 t p q o1 o2 g2]; exact rf_n2 op t a b c d p q r s w hpq hrs o1 o2 (decide_eq_false g1) (decide_eq_true g2)
  have lp : p ≤ q := by omega
  have lr : r ≤ s := by omega
  have hop : op = 11 ∨ op = 12 ∨ op = 13 ∨ op = 14 := by omega
  clear o1 o2
  rcases hop with rfl | rfl | rfl | rfl <;> cases t
  · rw [refF_11f g1 g2]; exact rf_11f a b c d p q r s w hpq hrs (decide_eq_false g1) (decide_eq_false g2) b0 b1 b2 b3 b4 b5 b6 b7
  · rw [refF_11t g1 g2]; exact rf_11t a b c d p q r s w hpq hrs (decide_eq_false g1) (decide_eq_false g2) b0 b1 b2 b3 b4 b5 b6 b7
  · rw [refF_12f g1 g2]; exact rf_12f a b c d p q r s w hpq hrs (decide_eq_false g1) (decide_eq_false g2) b0 b1 b2 b3 b4 b5 b6 b7
  · rw [refF_12t g1 g2]; exact rf_12t a b c d p q r s w hpq hrs (decide_eq_false g1) (decide_eq_false g2) b0 b1 b2 b3 b4 b5 b6 b7
  · rw [refF_13f g1 g2]; unfold wfF
    by_cases h3 : r = s <;> by_cases h4 : p = q
    · rw [if_pos h3, if_pos h4]; exact rf_13f0 a b c d p q r s w hpq hrs (decide_eq_false g1) (decide_eq_false g2) b0 b1 b2 b3 b4 b5 b6 b7 (by simpa using h3) (by simpa using h4)
    · rw [if_pos h3, if_neg h4]; exact rf_13f1 a b c d p q r s w hpq hrs (decide_eq_false g1) (decide_eq_false g2) b0 b1 b2 b3 b4 b5 b6 b7 (by simpa using h3) (by simpa using h4)
    · rw [if_neg h3, if_pos h4]; exact rf_13f2 a b c d p q r s w hpq hrs (decide_eq_false g1) (decide_eq_false g2) b0 b1 b2 b3 b4 b5 b6 b7 (by simpa using h3) (by simpa using h4)
    · rw [if_neg h3, if_neg h4]; exact rf_13f3 a b c d p q r s w hpq hrs (decide_eq_false g1) (decide_eq_false g2) b0 b1 b2 b3 b4 b5 b6 b7 (by simpa using h3) (by simpa using h4)
  · rw [refF_13t g1 g2]; exact rf_13t a b c d p q r s w hpq hrs (decide_eq_false g1) (decide_eq_false g2) b0 b1 b2 b3 b4 b5 b6 b7
  · rw [refF_14f g1 g2]; exact rf_14f a b c d p q r s w hpq hrs (decide_eq_false g1) (decide_eq_false g2) b0 b1 b2 b3 b4 b5 b6 b7
  · rw [refF_14t g1 g2]; unfold wfF
    by_cases h3 : r = s <;> by_cases h4 : p = q
    · rw [if_pos h3, if_pos h4]; exact rf_14t0 a b c d p q r s w hpq hrs (decide_eq_false g1) (decide_eq_false g2) b0 b1 b2 b3 b4 b5 b6 b7 (by simpa using h3) (by simpa using h4)
    · rw [if_pos h3, if_neg h4]; exact rf_14t1 a b c d p q r s w hpq hrs (decide_eq_false g1) (decide_eq_false g2) b0 b1 b2 b3 b4 b5 b6 b7 (by simpa using h3) (by simpa using h4)
    · rw [if_neg h3, if_pos h4]; exact rf_14t2 a b c d p q r s w hpq hrs (decide_eq_false g1) (decide_eq_false g2) b0 b1 b2 b3 b4 b5 b6 b7 (by simpa using h3) (by simpa using h4)
    · rw [if_neg h3, if_neg h4]; exact rf_14t3 a b c d p q r s w hpq hrs (decide_eq_false g1) (decide_eq_false g2) b0 b1 b2 b3 b4 b5 b6 b7 (by simpa using h3) (by simpa using h4)
end Go.Proofs.Ytdooadomkifbbaa
