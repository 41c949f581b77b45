/-
  Intervals of words, in plain Lean: what each function of the interval layer gives. No program in sight; no condition.
-/
import Derived.WalkKit
namespace Go.Proofs.Ytdooadomkifbbaa
open Go.RowKit

/-- A number is a word. -/
def isB (n : Int) : Bool := decide (-2147483648 ≤ n ∧ n ≤ 2147483647)
def nonB (a b : Int) : Bool := a == 1 && b == 0
def valB (a b : Int) : Bool := nonB a b || (isB a && (isB b && decide (a ≤ b)))
/-- An interval that is valid: all words in place of others. -/
def fixP (a b : Int) : Int × Int := if valB a b = true then (a, b) else (-2147483648, 2147483647)
def made (lo hi : Int) : Int × Int := if lo > hi then (1, 0) else (lo, hi)
def mnI (a b : Int) : Int := if a ≤ b then a else b
def mxI (a b : Int) : Int := if a ≤ b then b else a

/-- What Fix gives: none, or an interval of words. -/
def Fixed (p q : Int) : Prop := (p = 1 ∧ q = 0) ∨ (-2147483648 ≤ p ∧ p ≤ q ∧ q ≤ 2147483647)
theorem Fixed.bd {p q : Int} (h : Fixed p q) : -2147483648 ≤ p ∧ p ≤ 2147483647 ∧ -2147483648 ≤ q ∧ q ≤ 2147483647 := by
  rcases h with ⟨h1, h2⟩ | ⟨h1, h2, h3⟩ <;> omega
theorem isB_true {n : Int} (h0 : -2147483648 ≤ n) (h1 : n ≤ 2147483647) : isB n = true := decide_eq_true ⟨h0, h1⟩
theorem fix_fixed (a b : Int) : Fixed (fixP a b).1 (fixP a b).2 := by
  unfold fixP
  split
  · rename_i h
    simp only [valB, nonB, isB, Bool.or_eq_true, Bool.and_eq_true, beq_iff_eq, decide_eq_true_eq] at h
    rcases h with ⟨h1, h2⟩ | ⟨h1, h2, h3⟩
    · exact Or.inl ⟨h1, h2⟩
    · exact Or.inr ⟨h1.1, h3, h2.2⟩
  · exact Or.inr ⟨by decide, by decide, by decide⟩
theorem fix_of {p q : Int} (h : Fixed p q) : fixP p q = (p, q) := by
  have hv : valB p q = true := by
    simp only [valB, nonB, isB, Bool.or_eq_true, Bool.and_eq_true, beq_iff_eq, decide_eq_true_eq]
    rcases h with ⟨h1, h2⟩ | ⟨h1, h2, h3⟩
    · exact Or.inl ⟨h1, h2⟩
    · exact Or.inr ⟨⟨h1, by omega⟩, ⟨by omega, h3⟩, h2⟩
  unfold fixP; rw [if_pos hv]
theorem fix_ex (a b : Int) : ∃ p q, fixP a b = (p, q) ∧ Fixed p q := ⟨_, _, rfl, fix_fixed a b⟩

def emptyB (p q : Int) : Bool := decide (q < p)
def hasB (p q n : Int) : Bool := decide (p ≤ n ∧ n ≤ q)
def join0 (p q r s : Int) : Int × Int := if q < p then (r, s) else if s < r then (p, q) else made (mnI p r) (mxI q s)
def meet0 (p q r s : Int) : Int × Int := if q < p then (1, 0) else if s < r then (1, 0) else made (mxI p r) (mnI q s)
def leq0 (p q r s : Int) : Bool := decide (q < p ∨ (r ≤ s ∧ r ≤ p ∧ q ≤ s))
def joinF (a b c d : Int) : Int × Int := join0 (fixP a b).1 (fixP a b).2 (fixP c d).1 (fixP c d).2
def meetF (a b c d : Int) : Int × Int := meet0 (fixP a b).1 (fixP a b).2 (fixP c d).1 (fixP c d).2
def leqF (a b c d : Int) : Bool := leq0 (fixP a b).1 (fixP a b).2 (fixP c d).1 (fixP c d).2
def hasF (a b n : Int) : Bool := hasB (fixP a b).1 (fixP a b).2 n

def aroundF (lo hi : Int) : Int × Int := if (isB lo && isB hi) = true then (lo, hi) else (-2147483648, 2147483647)
def withoutF (p q n : Int) : Int × Int := if n = p then made (p + 1) q else if n = q then made p (q - 1) else (p, q)
def butF (p q r s : Int) : Int × Int := if r = s then made (if p = r then p + 1 else p) (if q = r then q - 1 else q) else (p, q)
def truthF (a b : Bool) : Int × Int := if a = true then (1, 1) else if b = true then (0, 0) else (0, 1)
/-- The least 2^k - 1 from m on that is at least n. -/
def maskG (m n : Int) : Int := if 0 ≤ m ∧ m < n then maskG (2 * m + 1) n else m
termination_by (n - m).toNat
decreasing_by omega
theorem maskG_step {m n : Int} (h0 : 0 ≤ m) (h : m < n) : maskG m n = maskG (2 * m + 1) n := by rw [maskG, if_pos ⟨h0, h⟩]
theorem maskG_end {m n : Int} (h : n ≤ m) : maskG m n = m := by rw [maskG, if_neg (by omega)]
def quoF (p q r s : Int) : Int × Int := aroundF (mnI (mnI (mnI (p.tdiv r) (p.tdiv s)) (q.tdiv r)) (q.tdiv s)) (mxI (mxI (mxI (p.tdiv r) (p.tdiv s)) (q.tdiv r)) (q.tdiv s))
def remF (p q s : Int) : Int × Int := (if p < 0 then mxI p (-(s - 1)) else 0, if 0 < q then mnI q (s - 1) else 0)
def bitF (op p q r s : Int) : Int × Int :=
  if 0 ≤ p ∧ 0 ≤ r then
    if op = 6 then (0, mnI q s) else if op = 7 then (mxI p r, maskG 0 (mxI q s)) else (0, maskG 0 (mxI q s))
  else if 0 ≤ p ∧ op = 6 then (0, q)
  else if 0 ≤ r ∧ op = 6 then (0, s)
  else (-2147483648, 2147483647)
theorem tdiv_bd {p r : Int} (h0 : -2147483648 ≤ p) (h1 : p ≤ 2147483647) (hr : 1 ≤ r) : -2147483648 ≤ p.tdiv r ∧ p.tdiv r ≤ 2147483647 := by
  have h : (p.tdiv r).natAbs ≤ p.natAbs := by
    rw [Int.natAbs_tdiv]; exact Nat.div_le_self _ _
  by_cases hp : 0 ≤ p
  · have := Int.tdiv_nonneg hp (show 0 ≤ r by omega)
    omega
  · have := Int.tdiv_nonneg (show 0 ≤ -p by omega) (show 0 ≤ r by omega)
    rw [Int.neg_tdiv] at this
    omega
theorem w64_in {x : Int} (h0 : -9223372036854775808 ≤ x) (h1 : x ≤ 9223372036854775807) : wrap64 x = x := by unfold wrap64; omega
theorem w64_tdiv {p r : Int} (h0 : -2147483648 ≤ p) (h1 : p ≤ 2147483647) (hr : 1 ≤ r) : wrap64 (p.tdiv r) = p.tdiv r := by
  have := tdiv_bd h0 h1 hr
  exact w64_in (by omega) (by omega)

/-! ### The builtins min and max, over ints -/
theorem max2_i (k k' : IntKind) (x y : Int) : Builtin.max2 (.int k x) (.int k' y) = pure (.int k (mxI x y)) := by
  have e : mxI x y = if x < y then y else x := by unfold mxI; split <;> split <;> omega
  rw [e]; simp only [Builtin.max2, gt_iff_lt]
theorem min2_i (k k' : IntKind) (x y : Int) : Builtin.min2 (.int k x) (.int k' y) = pure (.int k (mnI x y)) := by
  have e : mnI x y = if y < x then y else x := by unfold mnI; split <;> split <;> omega
  rw [e]; simp only [Builtin.min2]
theorem max_2 (ats : Array TypeId) (ty : TypeId) (a b : Value) : Builtin.max_ ats ty #[a, b] = (Builtin.max2 a b >>= fun s => pure s) := by simp only [Builtin.max_, List.foldlM_cons, List.foldlM_nil]
theorem min_2 (ats : Array TypeId) (ty : TypeId) (a b : Value) : Builtin.min_ ats ty #[a, b] = (Builtin.min2 a b >>= fun s => pure s) := by simp only [Builtin.min_, List.foldlM_cons, List.foldlM_nil]
theorem max_4 (ats : Array TypeId) (ty : TypeId) (a b c d : Value) : Builtin.max_ ats ty #[a, b, c, d] = (Builtin.max2 a b >>= fun s => Builtin.max2 s c >>= fun s => Builtin.max2 s d >>= fun s => pure s) := by simp only [Builtin.max_, List.foldlM_cons, List.foldlM_nil]
theorem min_4 (ats : Array TypeId) (ty : TypeId) (a b c d : Value) : Builtin.min_ ats ty #[a, b, c, d] = (Builtin.min2 a b >>= fun s => Builtin.min2 s c >>= fun s => Builtin.min2 s d >>= fun s => pure s) := by simp only [Builtin.min_, List.foldlM_cons, List.foldlM_nil]
end Go.Proofs.Ytdooadomkifbbaa
