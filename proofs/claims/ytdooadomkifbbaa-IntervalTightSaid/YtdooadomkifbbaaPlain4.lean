/-
  Intervals of words, in plain Lean, fourth part: Do and Refine as plain functions, and that the reference's forms are the same. No program in sight; words, where bounds are named.
-/
import Derived.Test.YtdooadomkifbbaaPlain3
import Derived.Test.YtdooadomkifbbaaWalksD
namespace Go.Proofs.Ytdooadomkifbbaa
open Go.RowKit

/-! ### Short names, for the walks' text -/
theorem sA {α : Type} {l : List α} {i : Nat} {a : α} : l.toArray.setIfInBounds i a = (l.set i a).toArray := List.setIfInBounds_toArray ..
theorem sB {α : Type} {a : α} {l : List α} {b : α} : (a :: l).set 0 b = b :: l := List.set_cons_zero
theorem sC {α : Type} {a : α} {l : List α} {n : Nat} {b : α} : (a :: l).set (n + 1) b = a :: l.set n b := List.set_cons_succ
theorem IB.all {w : World} {g : Nat} {lo hi : Int} (h : IB w g lo hi) : w.cell? ⟨g, 0, none⟩ = some (.int .i64 lo) ∧ w.cell? ⟨g, 1, none⟩ = some (.int .i64 hi) ∧ w.frozen? ⟨g, 0, none⟩ = false ∧ w.frozen? ⟨g, 1, none⟩ = false := ⟨h.c0, h.c1, h.f0 0, h.f0 1⟩

def allP : Int × Int := (-2147483648, 2147483647)
def do1F (op p q r s : Int) : Int × Int :=
  if op = 1 then aroundF (mnI (p + r) (q + s)) (mxI (p + r) (q + s))
  else if op = 2 then aroundF (mnI (p - s) (q - r)) (mxI (p - s) (q - r))
  else if op = 3 then aroundF (mn4 (p * r) (p * s) (q * r) (q * s)) (mx4 (p * r) (p * s) (q * r) (q * s))
  else if op = 4 then (if 1 ≤ r then quoF p q r s else allP)
  else if op = 5 then (if 1 ≤ r then remF p q s else allP)
  else if op = 6 ∨ op = 7 ∨ op = 8 then bitF op p q r s
  else if op = 9 then (if r = s ∧ 0 ≤ r ∧ r ≤ 31 ∧ 0 ≤ p ∧ q * 2 ^ r.toNat ≤ 2147483647 then (p * 2 ^ r.toNat, q * 2 ^ r.toNat) else allP)
  else if op = 10 then (if 0 ≤ r ∧ s ≤ 31 then aroundF (mn4 (p / 2 ^ r.toNat) (p / 2 ^ s.toNat) (q / 2 ^ r.toNat) (q / 2 ^ s.toNat)) (mx4 (p / 2 ^ r.toNat) (p / 2 ^ s.toNat) (q / 2 ^ r.toNat) (q / 2 ^ s.toNat)) else (mnI p 0, mxI q 0))
  else if op = 11 ∨ op = 12 ∨ op = 13 ∨ op = 14 then cmpF op p q r s
  else allP
/-- What Do gives for two valid intervals. -/
def doF (op p q r s : Int) : Int × Int := if q < p ∨ s < r then (1, 0) else do1F op p q r s
theorem doF_ne {p q r s : Int} (op : Int) (h1 : ¬ q < p) (h2 : ¬ s < r) : doF op p q r s = do1F op p q r s := if_neg (fun h => h.elim h1 h2)
theorem doF_e1 {p q : Int} (op r s : Int) (h1 : q < p) : doF op p q r s = (1, 0) := if_pos (Or.inl h1)
theorem doF_e2 {r s : Int} (op p q : Int) (h1 : s < r) : doF op p q r s = (1, 0) := if_pos (Or.inr h1)
theorem do1F_other {op : Int} (p q r s : Int) (h : ¬ (1 ≤ op ∧ op ≤ 14)) : do1F op p q r s = allP := by
  unfold do1F
  rw [if_neg (by omega), if_neg (by omega), if_neg (by omega), if_neg (by omega), if_neg (by omega), if_neg (by omega), if_neg (by omega), if_neg (by omega), if_neg (by omega)]

theorem do1F_9 (p q r s : Int) : do1F 9 p q r s = if r = s ∧ 0 ≤ r ∧ r ≤ 31 ∧ 0 ≤ p ∧ q * 2 ^ r.toNat ≤ 2147483647 then (p * 2 ^ r.toNat, q * 2 ^ r.toNat) else allP := by
  unfold do1F; rw [if_neg (by decide), if_neg (by decide), if_neg (by decide), if_neg (by decide), if_neg (by decide), if_neg (by decide), if_pos rfl]
theorem do1F_10 (p q r s : Int) : do1F 10 p q r s = if 0 ≤ r ∧ s ≤ 31 then aroundF (mn4 (p / 2 ^ r.toNat) (p / 2 ^ s.toNat) (q / 2 ^ r.toNat) (q / 2 ^ s.toNat)) (mx4 (p / 2 ^ r.toNat) (p / 2 ^ s.toNat) (q / 2 ^ r.toNat) (q / 2 ^ s.toNat)) else (mnI p 0, mxI q 0) := by
  unfold do1F; rw [if_neg (by decide), if_neg (by decide), if_neg (by decide), if_neg (by decide), if_neg (by decide), if_neg (by decide), if_neg (by decide), if_pos rfl]
theorem pow_bd {k : Nat} (h : k ≤ 31) : (1 : Int) ≤ 2 ^ k ∧ (2 : Int) ^ k ≤ 2147483648 := by
  have h1 := Nat.pow_le_pow_right (show 0 < 2 by decide) h
  have h2 : 1 ≤ 2 ^ k := Nat.one_le_two_pow
  have e : ((2 : Int) ^ k) = ((2 ^ k : Nat) : Int) := by simp
  have h3 : (2 : Nat) ^ 31 = 2147483648 := by decide
  rw [e]; omega
theorem mul_bd (x y m n : Int) (hm : 0 ≤ m) (hx0 : -m ≤ x) (hx1 : x ≤ m) (hy0 : -n ≤ y) (hy1 : y ≤ n) : -(m * n) ≤ x * y ∧ x * y ≤ m * n := by
  have h : (x * y).natAbs ≤ (m * n).natAbs := by
    rw [Int.natAbs_mul, Int.natAbs_mul]; exact Nat.mul_le_mul (by omega) (by omega)
  have hn : 0 ≤ m * n := Int.mul_nonneg hm (by omega)
  omega
theorem w64_mul {x y : Int} (hx0 : -2147483648 ≤ x) (hx1 : x ≤ 2147483648) (hy0 : -2147483648 ≤ y) (hy1 : y ≤ 2147483648) : wrap64 (x * y) = x * y := by
  have h := mul_bd x y 2147483648 2147483648 (by omega) hx0 hx1 hy0 hy1
  exact w64_in (by omega) (by omega)
theorem w64_shl {p r : Int} (h0 : -2147483648 ≤ p) (h1 : p ≤ 2147483647) (h2 : r ≤ 31) : wrap64 (p * 2 ^ r.toNat) = p * 2 ^ r.toNat := by
  have hb := pow_bd (k := r.toNat) (by omega)
  exact w64_mul h0 (by omega) (by omega) (by omega)

theorem ret_e {X Y : Int × Int} (e : X = Y) : Ending.returned (.agg #[.int .i64 Y.1, .int .i64 Y.2]) = .returned (.agg #[.int .i64 X.1, .int .i64 X.2]) := by rw [e]

/-! ### The reference's forms -/
theorem mn4_dup (x y : Int) : mn4 x y x y = mnI x y := by unfold mn4 mnI; split <;> (try split) <;> (try split) <;> omega
theorem mx4_dup (x y : Int) : mx4 x y x y = mxI x y := by unfold mx4 mxI; split <;> (try split) <;> (try split) <;> omega
theorem mn_le (x y : Int) : mnI x y ≤ x ∧ mnI x y ≤ y := by unfold mnI; split <;> omega
theorem mx_le (x y : Int) : x ≤ mxI x y ∧ y ≤ mxI x y := by unfold mxI; split <;> omega
theorem hull_around0 {lo hi : Int} (h : lo ≤ hi) : hullF lo hi = aroundF lo hi := by
  unfold hullF aroundF made isB
  by_cases h1 : lo < -2147483648
  · rw [if_pos h1, if_neg (by simp; omega)]
  · rw [if_neg h1]
    by_cases h2 : 2147483647 < hi
    · rw [if_pos h2, if_neg (by simp; omega)]
    · rw [if_neg h2, if_neg (by omega), if_pos (by simp; omega)]
theorem mn4_mx4 (a b c d : Int) : mn4 a b c d ≤ mx4 a b c d := by
  unfold mn4 mx4
  have h1 := mn_le a b; have h2 := mn_le (mnI a b) c; have h3 := mn_le (mnI (mnI a b) c) d
  have g1 := mx_le a b; have g2 := mx_le (mxI a b) c; have g3 := mx_le (mxI (mxI a b) c) d
  omega
theorem hull_around (a b c d : Int) : hullF (mn4 a b c d) (mx4 a b c d) = aroundF (mn4 a b c d) (mx4 a b c d) := hull_around0 (mn4_mx4 a b c d)
theorem hull_dup (x y : Int) : hullF (mn4 x y x y) (mx4 x y x y) = aroundF (mnI x y) (mxI x y) := by
  rw [hull_around, mn4_dup, mx4_dup]
theorem made_le {lo hi : Int} (h : lo ≤ hi) : made lo hi = (lo, hi) := if_neg (by omega)
theorem maskG_ge (m n : Int) (h : 0 ≤ m) : n ≤ maskG m n := by
  fun_induction maskG m n with
  | case1 m h0 ih => exact ih (by omega)
  | case2 m h0 => omega
theorem rem_a {p q s : Int} (h1 : 0 ≤ p) (h2 : q ≤ 0) : made 0 0 = remF p q s := by
  unfold remF; rw [if_neg (by omega), if_neg (by omega)]; rfl
theorem rem_b {p q s : Int} (h0 : 1 ≤ s) (h1 : 0 ≤ p) (h2 : ¬ q ≤ 0) : made 0 (mnI q (s - 1)) = remF p q s := by
  unfold remF; rw [if_neg (by omega), if_pos (by omega)]; exact made_le (by unfold mnI; split <;> omega)
theorem rem_c {p q s : Int} (h0 : 1 ≤ s) (h1 : ¬ 0 ≤ p) (h2 : q ≤ 0) : made (mxI p (1 - s)) 0 = remF p q s := by
  unfold remF; rw [if_pos (by omega), if_neg (by omega), show 1 - s = -(s - 1) by omega]; exact made_le (by unfold mxI; split <;> omega)
theorem rem_d {p q s : Int} (h0 : 1 ≤ s) (h1 : ¬ 0 ≤ p) (h2 : ¬ q ≤ 0) : made (mxI p (1 - s)) (mnI q (s - 1)) = remF p q s := by
  unfold remF; rw [if_pos (by omega), if_pos (by omega), show 1 - s = -(s - 1) by omega]; exact made_le (by unfold mxI mnI; split <;> split <;> omega)

/-! ### Refine -/
def wfF (p q r s : Int) : Int × Int := if r = s then withoutF p q r else (p, q)
def refF (op : Int) (t : Bool) (p q r s : Int) : (Int × Int) × (Int × Int) :=
  if op < 11 ∨ 14 < op then ((p, q), (r, s))
  else if q < p ∨ s < r then ((1, 0), (1, 0))
  else if op = 11 then (if t = true then finF (made p (mnI q (s - 1))) (made (mxI r (p + 1)) s) else finF (made (mxI p r) q) (made r (mnI s q)))
  else if op = 12 then (if t = true then finF (made p (mnI q s)) (made (mxI r p) s) else finF (made (mxI p (r + 1)) q) (made r (mnI s (q - 1))))
  else if decide (op = 13) = t then finF (meet0 p q r s) (meet0 p q r s)
  else finF (wfF p q r s) (wfF r s p q)
theorem refF_o1 {op : Int} (t : Bool) (p q r s : Int) (h : op < 11) : refF op t p q r s = ((p, q), (r, s)) := if_pos (Or.inl h)
theorem refF_o2 {op : Int} (t : Bool) (p q r s : Int) (h : 14 < op) : refF op t p q r s = ((p, q), (r, s)) := if_pos (Or.inr h)
theorem refF_e1 {op p q : Int} (t : Bool) (r s : Int) (o1 : ¬ op < 11) (o2 : ¬ 14 < op) (h : q < p) : refF op t p q r s = ((1, 0), (1, 0)) := by
  unfold refF; rw [if_neg (by omega), if_pos (Or.inl h)]
theorem refF_e2 {op r s : Int} (t : Bool) (p q : Int) (o1 : ¬ op < 11) (o2 : ¬ 14 < op) (h : s < r) : refF op t p q r s = ((1, 0), (1, 0)) := by
  unfold refF; rw [if_neg (by omega), if_pos (Or.inr h)]
section
variable {p q r s : Int} (h1 : ¬ q < p) (h2 : ¬ s < r)
include h1 h2
theorem refF_11t : refF 11 true p q r s = finF (made p (mnI q (s - 1))) (made (mxI r (p + 1)) s) := by unfold refF; rw [if_neg (by omega), if_neg (by omega)]; rfl
theorem refF_11f : refF 11 false p q r s = finF (made (mxI p r) q) (made r (mnI s q)) := by unfold refF; rw [if_neg (by omega), if_neg (by omega)]; rfl
theorem refF_12t : refF 12 true p q r s = finF (made p (mnI q s)) (made (mxI r p) s) := by unfold refF; rw [if_neg (by omega), if_neg (by omega)]; rfl
theorem refF_12f : refF 12 false p q r s = finF (made (mxI p (r + 1)) q) (made r (mnI s (q - 1))) := by unfold refF; rw [if_neg (by omega), if_neg (by omega)]; rfl
theorem refF_13t : refF 13 true p q r s = finF (meet0 p q r s) (meet0 p q r s) := by unfold refF; rw [if_neg (by omega), if_neg (by omega)]; rfl
theorem refF_14f : refF 14 false p q r s = finF (meet0 p q r s) (meet0 p q r s) := by unfold refF; rw [if_neg (by omega), if_neg (by omega)]; rfl
theorem refF_13f : refF 13 false p q r s = finF (wfF p q r s) (wfF r s p q) := by unfold refF; rw [if_neg (by omega), if_neg (by omega)]; rfl
theorem refF_14t : refF 14 true p q r s = finF (wfF p q r s) (wfF r s p q) := by unfold refF; rw [if_neg (by omega), if_neg (by omega)]; rfl
end
def OkP (X : Int × Int) : Prop := eqI X.1 X.2 1 0 = emptyB X.1 X.2
theorem made_ok (lo hi : Int) : OkP (made lo hi) := by
  unfold OkP made
  by_cases h : lo > hi
  · rw [if_pos h]; rfl
  · rw [if_neg h, Bool.eq_iff_iff]; simp only [eqI, emptyB, Bool.and_eq_true, beq_iff_eq, decide_eq_true_eq]; omega
theorem meet_ok (p q r s : Int) : OkP (meet0 p q r s) := by
  unfold meet0
  split
  · rfl
  · split
    · rfl
    · exact made_ok _ _
theorem pair_ok {p q : Int} (h : p ≤ q) : OkP (p, q) := by
  unfold OkP; rw [Bool.eq_iff_iff]; simp only [eqI, emptyB, Bool.and_eq_true, beq_iff_eq, decide_eq_true_eq]; omega
theorem but_ok {p q : Int} (r s : Int) (h : p ≤ q) : OkP (butF p q r s) := by
  unfold butF
  split
  · exact made_ok _ _
  · exact pair_ok h
theorem both_fin {X Y : Int × Int} (hx : OkP X) (hy : OkP Y) : bothF X.1 X.2 Y.1 Y.2 = finF X Y := by
  unfold OkP at hx hy
  unfold bothF finF
  rw [hx, hy]
theorem but_wf {p q : Int} (r s : Int) (h : p ≤ q) : butF p q r s = wfF p q r s := by
  unfold butF wfF
  by_cases h1 : r = s
  · rw [if_pos h1, if_pos h1]
    unfold withoutF
    by_cases h2 : p = r
    · rw [if_pos h2, if_pos h2.symm]
      by_cases h3 : q = r
      · rw [if_pos h3]; unfold made; rw [if_pos (by omega), if_pos (by omega)]
      · rw [if_neg h3]
    · rw [if_neg h2]
      by_cases h3 : q = r
      · rw [if_pos h3, if_neg (show ¬ r = p by omega), if_pos h3.symm]
      · rw [if_neg h3, if_neg (show ¬ r = p by omega), if_neg (show ¬ r = q by omega)]; exact made_le h
  · rw [if_neg h1, if_neg h1]
end Go.Proofs.Ytdooadomkifbbaa
