/-
  Join and Meet of intervals are the bounds of the order, in plain Lean. Conditions: what Fix gives.
-/
import Derived.Test.YtdooadomkifbbaaFixed
namespace Go.Proofs.Ytdooadomkifbbaa
open Go.RowKit
set_option linter.unusedVariables false
set_option linter.unusedSectionVars false

theorem leq_iff (p q r s : Int) : leq0 p q r s = true ↔ q < p ∨ (r ≤ s ∧ r ≤ p ∧ q ≤ s) := by unfold leq0; exact decide_eq_true_iff
section
variable {p q r s : Int} (f : Fixed p q) (g : Fixed r s)
include f g
theorem join_is : (q < p ∧ join0 p q r s = (r, s)) ∨ (¬ q < p ∧ s < r ∧ join0 p q r s = (p, q)) ∨ (¬ q < p ∧ ¬ s < r ∧ join0 p q r s = (mnI p r, mxI q s)) := by
  unfold join0
  by_cases h1 : q < p
  · left; exact ⟨h1, if_pos h1⟩
  · by_cases h2 : s < r
    · right; left; exact ⟨h1, h2, by rw [if_neg h1, if_pos h2]⟩
    · right; right
      refine ⟨h1, h2, ?_⟩
      rw [if_neg h1, if_neg h2]
      unfold made; rw [if_neg (by unfold mnI mxI; split <;> split <;> omega)]
theorem meet_is : ((q < p ∨ s < r) ∧ meet0 p q r s = (1, 0)) ∨ (¬ q < p ∧ ¬ s < r ∧ mnI q s < mxI p r ∧ meet0 p q r s = (1, 0)) ∨ (¬ q < p ∧ ¬ s < r ∧ ¬ mnI q s < mxI p r ∧ meet0 p q r s = (mxI p r, mnI q s)) := by
  unfold meet0
  by_cases h1 : q < p
  · left; exact ⟨Or.inl h1, if_pos h1⟩
  · by_cases h2 : s < r
    · left; exact ⟨Or.inr h2, by rw [if_neg h1, if_pos h2]⟩
    · right
      rw [if_neg h1, if_neg h2]
      unfold made
      by_cases h3 : mxI p r > mnI q s
      · left; exact ⟨h1, h2, h3, if_pos h3⟩
      · right; exact ⟨h1, h2, h3, if_neg h3⟩
theorem join_fixed : Fixed (join0 p q r s).1 (join0 p q r s).2 := by
  rcases join_is f g with ⟨_, e⟩ | ⟨_, _, e⟩ | ⟨h1, h2, e⟩ <;> rw [e]
  · exact g
  · exact f
  · right
    rcases f with f | f <;> rcases g with g | g <;> (try omega)
    simp only [mnI, mxI]; split <;> split <;> omega
theorem meet_fixed : Fixed (meet0 p q r s).1 (meet0 p q r s).2 := by
  rcases meet_is f g with ⟨_, e⟩ | ⟨_, _, _, e⟩ | ⟨h1, h2, h3, e⟩ <;> rw [e]
  · exact Or.inl ⟨rfl, rfl⟩
  · exact Or.inl ⟨rfl, rfl⟩
  · right
    rcases f with f | f <;> rcases g with g | g <;> (try omega)
    simp only [mnI, mxI] at h3 ⊢
    split at h3 <;> split at h3 <;> (try split) <;> (try split) <;> omega
theorem join_l : leq0 p q (join0 p q r s).1 (join0 p q r s).2 = true := by
  rw [leq_iff]
  rcases join_is f g with ⟨h, e⟩ | ⟨h, h', e⟩ | ⟨h1, h2, e⟩ <;> rw [e]
  · exact Or.inl h
  · right; simp only; omega
  · right; simp only [mnI, mxI]; split <;> split <;> omega
theorem join_r : leq0 r s (join0 p q r s).1 (join0 p q r s).2 = true := by
  rw [leq_iff]
  rcases join_is f g with ⟨h, e⟩ | ⟨h, h', e⟩ | ⟨h1, h2, e⟩ <;> rw [e]
  · by_cases c : s < r
    · exact Or.inl c
    · right; simp only; omega
  · exact Or.inl h'
  · right; simp only [mnI, mxI]; split <;> split <;> omega
theorem meet_l : leq0 (meet0 p q r s).1 (meet0 p q r s).2 p q = true := by
  rw [leq_iff]
  rcases meet_is f g with ⟨_, e⟩ | ⟨_, _, _, e⟩ | ⟨h1, h2, h3, e⟩ <;> rw [e]
  · left; decide
  · left; decide
  · right; simp only [mnI, mxI]; split <;> split <;> omega
theorem meet_r : leq0 (meet0 p q r s).1 (meet0 p q r s).2 r s = true := by
  rw [leq_iff]
  rcases meet_is f g with ⟨_, e⟩ | ⟨_, _, _, e⟩ | ⟨h1, h2, h3, e⟩ <;> rw [e]
  · left; decide
  · left; decide
  · right; simp only [mnI, mxI]; split <;> split <;> omega
theorem fixed_empty {p q : Int} (f : Fixed p q) (h : q < p) : p = 1 ∧ q = 0 := by rcases f with f | f; exact f; omega
theorem join_comm : join0 p q r s = join0 r s p q := by
  unfold join0
  by_cases h1 : q < p
  · rw [if_pos h1]
    by_cases h2 : s < r
    · rw [if_pos h2]
      rcases f with f | f <;> rcases g with g | g <;> (try omega)
      rw [f.1, f.2, g.1, g.2]
    · rw [if_neg h2, if_pos h1]
  · rw [if_neg h1]
    by_cases h2 : s < r
    · rw [if_pos h2, if_pos h2]
    · rw [if_neg h2, if_neg h2, if_neg h1]
      have e1 : mnI p r = mnI r p := by simp only [mnI]; split <;> split <;> omega
      have e2 : mxI q s = mxI s q := by simp only [mxI]; split <;> split <;> omega
      rw [e1, e2]
theorem meet_comm : meet0 p q r s = meet0 r s p q := by
  unfold meet0
  by_cases h1 : q < p
  · rw [if_pos h1]
    by_cases h2 : s < r
    · rw [if_pos h2]
    · rw [if_neg h2, if_pos h1]
  · rw [if_neg h1]
    by_cases h2 : s < r
    · rw [if_pos h2, if_pos h2]
    · rw [if_neg h2, if_neg h2, if_neg h1]
      have e1 : mxI p r = mxI r p := by simp only [mxI]; split <;> split <;> omega
      have e2 : mnI q s = mnI s q := by simp only [mnI]; split <;> split <;> omega
      rw [e1, e2]
theorem leq_antisym (h : leq0 p q r s = true) (h' : leq0 r s p q = true) : p = r ∧ q = s := by
  rw [leq_iff] at h h'
  rcases f with f | f <;> rcases g with g | g <;> omega
/-- The join is the least bound: under it, both are. -/
theorem join_least {u v : Int} (k : Fixed u v) (h : leq0 p q u v = true) : leq0 r s u v = leq0 (join0 p q r s).1 (join0 p q r s).2 u v := by
  rw [Bool.eq_iff_iff, leq_iff, leq_iff]
  rw [leq_iff] at h
  rcases join_is f g with ⟨c, e⟩ | ⟨c, c', e⟩ | ⟨c, c', e⟩ <;> rw [e]
  · simp only; omega
  · simp only [mnI, mxI]
    constructor
    · intro z; split <;> (try split) <;> omega
    · intro z; omega
theorem meet_greatest {u v : Int} (k : Fixed u v) (h : leq0 u v p q = true) : leq0 u v r s = leq0 u v (meet0 p q r s).1 (meet0 p q r s).2 := by
  rw [Bool.eq_iff_iff, leq_iff, leq_iff]
  rw [leq_iff] at h
  rcases meet_is f g with ⟨c, e⟩ | ⟨c, c', c3, e⟩ | ⟨c, c', c3, e⟩ <;> rw [e]
  · simp only; rcases k with k | k <;> omega
  · simp only [mnI, mxI] at c3 ⊢
    split at c3 <;> split at c3 <;> rcases k with k | k <;> omega
  · simp only [mnI, mxI] at c3 ⊢
    split at c3 <;> split at c3 <;> (try split) <;> (try split) <;> omega
end
theorem leq_refl {p q : Int} (f : Fixed p q) : leq0 p q p q = true := by
  rw [leq_iff]; rcases f with f | f <;> omega
theorem leq_none (r s : Int) : leq0 1 0 r s = true := by rw [leq_iff]; left; decide
theorem leq_top {p q : Int} (f : Fixed p q) : leq0 p q (-2147483648) 2147483647 = true := by
  rw [leq_iff]; rcases f with f | f <;> omega
end Go.Proofs.Ytdooadomkifbbaa
