/-
  Intervals of words, in plain Lean, second part: comparisons, operators and refinements. No program in sight; no condition.
-/
import Derived.Test.YtdooadomkifbbaaWalksA
namespace Go.Proofs.Ytdooadomkifbbaa
open Go.RowKit

def cmpF (op p q r s : Int) : Int × Int :=
  if op = 11 then truthF (decide (q < r)) (decide (s ≤ p))
  else if op = 12 then truthF (decide (q ≤ r)) (decide (s < p))
  else if op = 13 then truthF (decide (p = q ∧ r = s ∧ p = r)) (decide (q < r ∨ s < p))
  else truthF (decide (q < r ∨ s < p)) (decide (p = q ∧ r = s ∧ p = r))
def bothF (a b c d : Int) : (Int × Int) × (Int × Int) := if eqI a b 1 0 = true then ((1, 0), (1, 0)) else if eqI c d 1 0 = true then ((1, 0), (1, 0)) else ((a, b), (c, d))
def hullF (lo hi : Int) : Int × Int := if lo < -2147483648 then (-2147483648, 2147483647) else if 2147483647 < hi then (-2147483648, 2147483647) else made lo hi
def mn4 (a b c d : Int) : Int := mnI (mnI (mnI a b) c) d
def mx4 (a b c d : Int) : Int := mxI (mxI (mxI a b) c) d
theorem always13 (p q r s : Int) : (p == q && eqI p q r s) = decide (p = q ∧ r = s ∧ p = r) := by
  rw [Bool.eq_iff_iff]; simp only [eqI, Bool.and_eq_true, beq_iff_eq, decide_eq_true_eq]; omega
theorem never13 {p q r s : Int} (h1 : p ≤ q) (h2 : r ≤ s) : emptyB (meet0 p q r s).1 (meet0 p q r s).2 = decide (q < r ∨ s < p) := by
  rw [Bool.eq_iff_iff]; simp only [emptyB, decide_eq_true_eq]
  unfold meet0
  rw [if_neg (by omega), if_neg (by omega)]
  unfold made
  by_cases c3 : mxI p r > mnI q s
  · rw [if_pos c3]; unfold mxI mnI at c3
    constructor <;> intro h <;> simp only at h ⊢ <;> (split at c3 <;> split at c3 <;> omega)
  · rw [if_neg c3]; unfold mxI mnI at *
    constructor <;> intro h <;> simp only at h ⊢ <;> (split at c3 <;> split at c3 <;> simp_all <;> omega)
/-- Block g holds some interval. -/
def EB (w : World) (g : Nat) : Prop := ∃ lo hi, IB w g lo hi
open Go.Proofs.YtdooadomkifbbaaW.PrintLast in
/-- A store behind which S still holds. -/
theorem s_store {P : Program} {ops : Array Oper} {Q : Exit → Act → World → Prop} {S : World → Prop} {ds : List Nat} {oi : Oper} {r : OT} {a : Act} {w w1 : World} (hN : oi.dst = none)
    (hw : Region.wanted oi (yielded ops a.tmps) = true) (hrun : (execOp a.eval oi).run P w = .ok .skip w1) (hS : S w1) (h : S w1 → WpO P ops Q S ds r a w1) : StepO P ops Q S ds oi r a w := fun K hK => by
  rw [hN]
  refine skip_ hw hN hrun ?_
  exact hK.out _ _ hS h
end Go.Proofs.Ytdooadomkifbbaa
