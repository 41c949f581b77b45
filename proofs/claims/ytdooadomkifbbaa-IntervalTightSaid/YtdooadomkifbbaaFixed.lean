/-
  Do's interval is a valid one, in plain Lean. Words.
-/
import Derived.Test.YtdooadomkifbbaaSound
namespace Go.Proofs.Ytdooadomkifbbaa
open Go.RowKit
set_option linter.unusedSectionVars false
set_option linter.unusedVariables false
set_option linter.unusedSimpArgs false

def FixP (z : Int × Int) : Prop := Fixed z.1 z.2
theorem all_fixed : FixP allP := Or.inr ⟨by decide, by decide, by decide⟩
theorem around_fixed {lo hi : Int} (h : lo ≤ hi) : FixP (aroundF lo hi) := by
  unfold aroundF
  by_cases c : (isB lo && isB hi) = true
  · rw [if_pos c]
    simp only [isB, Bool.and_eq_true, decide_eq_true_eq] at c
    exact Or.inr ⟨c.1.1, h, c.2.2⟩
  · rw [if_neg c]; exact all_fixed
theorem mask_bd (m n : Int) (hn : n ≤ 2147483647) (h : ∃ j : Nat, j ≤ 31 ∧ m + 1 = ((2 ^ j : Nat) : Int)) : ∃ j : Nat, j ≤ 31 ∧ maskG m n + 1 = ((2 ^ j : Nat) : Int) := by
  fun_induction maskG m n with
  | case1 m h0 ih =>
    obtain ⟨j, hj, e⟩ := h
    have h31 : (2 : Nat) ^ 31 = 2147483648 := by decide
    have hlt : j < 31 := by
      rcases Nat.lt_or_ge j 31 with c | c
      · exact c
      · have := Nat.pow_le_pow_right (show 0 < 2 by decide) c; omega
    exact ih ⟨j + 1, by omega, by rw [Nat.pow_succ]; omega⟩
  | case2 m h0 => exact h
theorem mask_le {n : Int} (hn : n ≤ 2147483647) : maskG 0 n ≤ 2147483647 := by
  obtain ⟨j, hj, e⟩ := mask_bd 0 n hn ⟨0, by decide, rfl⟩
  have := Nat.pow_le_pow_right (show 0 < 2 by decide) hj
  have h31 : (2 : Nat) ^ 31 = 2147483648 := by decide
  omega
theorem truth_fixed (x y : Bool) : FixP (truthF x y) := by
  cases x <;> cases y <;> exact Or.inr ⟨by decide, by decide, by decide⟩
theorem bit_fixed (op : Int) {p q r s : Int} (b0 : -2147483648 ≤ p) (l0 : p ≤ q) (b3 : q ≤ 2147483647) (b4 : -2147483648 ≤ r) (l1 : r ≤ s) (b7 : s ≤ 2147483647) : FixP (bitF op p q r s) := by
  unfold bitF
  by_cases c : 0 ≤ p ∧ 0 ≤ r
  · rw [if_pos c]
    have x := mx_le q s
    have mq : mxI q s ≤ 2147483647 := by unfold mxI; split <;> omega
    have g := maskG_ge 0 (mxI q s) (by omega)
    have gl := mask_le mq
    by_cases c6 : op = 6
    · rw [if_pos c6]; refine Or.inr ⟨by (simp only; omega), ?_, ?_⟩ <;> (unfold mnI; simp only; split <;> omega)
    · rw [if_neg c6]
      by_cases c7 : op = 7
      · rw [if_pos c7]
        have z : mxI p r ≤ mxI q s := by unfold mxI; split <;> split <;> omega
        have y := mx_le p r
        exact Or.inr ⟨by simp only; omega, by simp only; omega, gl⟩
      · rw [if_neg c7]; exact Or.inr ⟨by (simp only; omega), by simp only; omega, gl⟩
  · rw [if_neg c]
    by_cases c1 : 0 ≤ p ∧ op = 6
    · rw [if_pos c1]; exact Or.inr ⟨by (simp only; omega), by simp only; omega, b3⟩
    · rw [if_neg c1]
      by_cases c2 : 0 ≤ r ∧ op = 6
      · rw [if_pos c2]; exact Or.inr ⟨by (simp only; omega), by simp only; omega, b7⟩
      · rw [if_neg c2]; exact all_fixed
theorem do1_fixed (op : Int) {p q r s : Int} (b0 : -2147483648 ≤ p) (l0 : p ≤ q) (b3 : q ≤ 2147483647) (b4 : -2147483648 ≤ r) (l1 : r ≤ s) (b7 : s ≤ 2147483647) : FixP (do1F op p q r s) := by
  unfold do1F
  split
  · exact around_fixed (by have := mn_le (p + r) (q + s); have := mx_le (p + r) (q + s); omega)
  split
  · exact around_fixed (by have := mn_le (p - s) (q - r); have := mx_le (p - s) (q - r); omega)
  split
  · exact around_fixed (mn4_mx4 _ _ _ _)
  split
  · split
    · exact around_fixed (mn4_mx4 (p.tdiv r) (p.tdiv s) (q.tdiv r) (q.tdiv s))
    · exact all_fixed
  split
  · split
    · unfold remF mxI mnI
      refine Or.inr ⟨?_, ?_, ?_⟩ <;> simp only <;> split <;> (try split) <;> (try split) <;> (try split) <;> omega
    · exact all_fixed
  split
  · exact bit_fixed op b0 l0 b3 b4 l1 b7
  split
  · split
    · rename_i c
      have pb := pow_bd (k := r.toNat) (by omega)
      have m1 : p * 2 ^ r.toNat ≤ q * 2 ^ r.toNat := Int.mul_le_mul_of_nonneg_right l0 (by omega)
      have m3 : 0 ≤ p * 2 ^ r.toNat := Int.mul_nonneg c.2.2.2.1 (by omega)
      exact Or.inr ⟨by simp only; omega, m1, c.2.2.2.2⟩
    · exact all_fixed
  split
  · split
    · exact around_fixed (mn4_mx4 _ _ _ _)
    · unfold mnI mxI
      refine Or.inr ⟨?_, ?_, ?_⟩ <;> simp only <;> split <;> (try split) <;> omega
  split
  · unfold cmpF
    split
    · exact truth_fixed _ _
    split
    · exact truth_fixed _ _
    split
    · exact truth_fixed _ _
    · exact truth_fixed _ _
  · exact all_fixed
theorem do_fixed (op : Int) {p q r s : Int} (fp : Fixed p q) (fr : Fixed r s) : FixP (doF op p q r s) := by
  unfold doF
  have x := fp.bd
  have y := fr.bd
  split
  · exact Or.inl ⟨rfl, rfl⟩
  · exact do1_fixed op x.1 (by omega) x.2.2.2 y.1 (by omega) y.2.2.2
theorem has_in {z : Int × Int} {v : Int} (h : InI z v) : hasB z.1 z.2 v = true := decide_eq_true h
theorem val_fix {z : Int × Int} (h : FixP z) : valB z.1 z.2 = true := by
  have := fix_of h
  unfold fixP at this
  by_cases c : valB z.1 z.2 = true
  · exact c
  · rw [if_neg c] at this
    have e := all_fixed
    have e1 : z.1 = -2147483648 := (congrArg Prod.fst this).symm
    have e2 : z.2 = 2147483647 := (congrArg Prod.snd this).symm
    rw [e1, e2]; decide
end Go.Proofs.Ytdooadomkifbbaa
