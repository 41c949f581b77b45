/-
  Soundness, in plain Lean: the result of an operator for words of two intervals lies in Do's interval. Words.
-/
import Derived.Test.YtdooadomkifbbaaPlain4
import Derived.Test.YtdooadomkifbbaaWord
namespace Go.Proofs.Ytdooadomkifbbaa
open Go.RowKit
set_option linter.unusedSectionVars false

def InI (z : Int × Int) (v : Int) : Prop := z.1 ≤ v ∧ v ≤ z.2
theorem in_all (v : Int) : InI allP (wrap32 v) := by have := w32_bd v; exact ⟨this.1, this.2⟩
theorem in_around {lo hi v : Int} (h0 : lo ≤ v) (h1 : v ≤ hi) : InI (aroundF lo hi) (wrap32 v) := by
  unfold aroundF
  by_cases h : (isB lo && isB hi) = true
  · rw [if_pos h]
    simp only [isB, Bool.and_eq_true, decide_eq_true_eq] at h
    rw [w32_of v (by omega) (by omega)]
    exact ⟨h0, h1⟩
  · rw [if_neg h]; exact in_all v
theorem mn4_le (a b c d : Int) : mn4 a b c d ≤ a ∧ mn4 a b c d ≤ b ∧ mn4 a b c d ≤ c ∧ mn4 a b c d ≤ d := by
  unfold mn4
  have h1 := mn_le a b; have h2 := mn_le (mnI a b) c; have h3 := mn_le (mnI (mnI a b) c) d
  omega
theorem mx4_le (a b c d : Int) : a ≤ mx4 a b c d ∧ b ≤ mx4 a b c d ∧ c ≤ mx4 a b c d ∧ d ≤ mx4 a b c d := by
  unfold mx4
  have h1 := mx_le a b; have h2 := mx_le (mxI a b) c; have h3 := mx_le (mxI (mxI a b) c) d
  omega
theorem mul_between {p q i : Int} (k : Int) (h0 : p ≤ i) (h1 : i ≤ q) : (p * k ≤ i * k ∧ i * k ≤ q * k) ∨ (q * k ≤ i * k ∧ i * k ≤ p * k) := by
  by_cases hk : 0 ≤ k
  · exact Or.inl ⟨Int.mul_le_mul_of_nonneg_right h0 hk, Int.mul_le_mul_of_nonneg_right h1 hk⟩
  · exact Or.inr ⟨Int.mul_le_mul_of_nonpos_right h1 (by omega), Int.mul_le_mul_of_nonpos_right h0 (by omega)⟩
theorem mul_corners {p q r s i k : Int} (h0 : p ≤ i) (h1 : i ≤ q) (h2 : r ≤ k) (h3 : k ≤ s) : mn4 (p * r) (p * s) (q * r) (q * s) ≤ i * k ∧ i * k ≤ mx4 (p * r) (p * s) (q * r) (q * s) := by
  have a := mul_between k h0 h1
  have b := mul_between p h2 h3
  have c := mul_between q h2 h3
  rw [Int.mul_comm r p, Int.mul_comm s p, Int.mul_comm k p] at b
  rw [Int.mul_comm r q, Int.mul_comm s q, Int.mul_comm k q] at c
  have m := mn4_le (p * r) (p * s) (q * r) (q * s)
  have x := mx4_le (p * r) (p * s) (q * r) (q * s)
  omega
theorem ediv_anti {a b c : Int} (h0 : 0 ≤ a) (h1 : 0 < b) (h2 : b ≤ c) : a / c ≤ a / b := by
  have hq : 0 ≤ a / c := Int.ediv_nonneg h0 (by omega)
  have h3 : (a / c) * c ≤ a := Int.ediv_mul_le a (by omega)
  have h4 : (a / c) * b ≤ (a / c) * c := Int.mul_le_mul_of_nonneg_left h2 hq
  exact (Int.le_ediv_iff_mul_le h1).2 (by omega)
theorem ediv_mono_neg {a b c : Int} (h0 : a < 0) (h1 : 0 < b) (h2 : b ≤ c) : a / b ≤ a / c := by
  have hq : a / b ≤ 0 := by
    have := Int.ediv_le_ediv (c := b) h1 (show a ≤ 0 by omega)
    simpa using this
  have h3 : (a / b) * b ≤ a := Int.ediv_mul_le a (by omega)
  have h4 : (a / b) * c ≤ (a / b) * b := Int.mul_le_mul_of_nonpos_left hq h2
  exact (Int.le_ediv_iff_mul_le (by omega)).2 (by omega)
theorem ediv_between {r s k : Int} (a : Int) (h0 : 0 < r) (h1 : r ≤ k) (h2 : k ≤ s) : (a / r ≤ a / k ∧ a / k ≤ a / s) ∨ (a / s ≤ a / k ∧ a / k ≤ a / r) := by
  by_cases h : 0 ≤ a
  · exact Or.inr ⟨ediv_anti h (by omega) h2, ediv_anti h h0 h1⟩
  · exact Or.inl ⟨ediv_mono_neg (by omega) h0 h1, ediv_mono_neg (by omega) (by omega) h2⟩
theorem tdiv_between {r s k : Int} (a : Int) (h0 : 0 < r) (h1 : r ≤ k) (h2 : k ≤ s) : (a.tdiv r ≤ a.tdiv k ∧ a.tdiv k ≤ a.tdiv s) ∨ (a.tdiv s ≤ a.tdiv k ∧ a.tdiv k ≤ a.tdiv r) := by
  by_cases h : 0 ≤ a
  · rw [Int.tdiv_eq_ediv_of_nonneg h, Int.tdiv_eq_ediv_of_nonneg h, Int.tdiv_eq_ediv_of_nonneg h]
    exact Or.inr ⟨ediv_anti h (by omega) h2, ediv_anti h h0 h1⟩
  · have e : ∀ x : Int, a.tdiv x = -((-a) / x) := by
      intro x
      have := Int.neg_tdiv (-a) x
      rw [Int.neg_neg, Int.tdiv_eq_ediv_of_nonneg (show 0 ≤ -a by omega)] at this
      exact this
    rw [e, e, e]
    have x := ediv_anti (a := -a) (by omega) (show 0 < k by omega) h2
    have y := ediv_anti (a := -a) (by omega) h0 h1
    exact Or.inl ⟨by omega, by omega⟩
theorem tdiv_mono {a b k : Int} (hk : 0 < k) (h : a ≤ b) : a.tdiv k ≤ b.tdiv k := by
  by_cases h0 : 0 ≤ a
  · rw [Int.tdiv_eq_ediv_of_nonneg h0, Int.tdiv_eq_ediv_of_nonneg (show 0 ≤ b by omega)]; exact Int.ediv_le_ediv hk h
  · have e : a.tdiv k = -((-a) / k) := by
      have := Int.neg_tdiv (-a) k
      rwa [Int.neg_neg, Int.tdiv_eq_ediv_of_nonneg (show 0 ≤ -a by omega)] at this
    rw [e]
    by_cases h1 : 0 ≤ b
    · rw [Int.tdiv_eq_ediv_of_nonneg h1]
      have x := Int.ediv_nonneg (show 0 ≤ -a by omega) (show 0 ≤ k by omega)
      have y := Int.ediv_nonneg h1 (show 0 ≤ k by omega)
      omega
    · have e2 : b.tdiv k = -((-b) / k) := by
        have := Int.neg_tdiv (-b) k
        rwa [Int.neg_neg, Int.tdiv_eq_ediv_of_nonneg (show 0 ≤ -b by omega)] at this
      rw [e2]
      have x := Int.ediv_le_ediv (c := k) hk (show -b ≤ -a by omega)
      omega
theorem tdiv_corners {p q r s i k : Int} (h : 1 ≤ r) (h0 : p ≤ i) (h1 : i ≤ q) (h2 : r ≤ k) (h3 : k ≤ s) :
    mn4 (p.tdiv r) (p.tdiv s) (q.tdiv r) (q.tdiv s) ≤ i.tdiv k ∧ i.tdiv k ≤ mx4 (p.tdiv r) (p.tdiv s) (q.tdiv r) (q.tdiv s) := by
  have a := tdiv_mono (k := k) (by omega) h0
  have a' := tdiv_mono (k := k) (by omega) h1
  have b := tdiv_between p (by omega) h2 h3
  have c := tdiv_between q (by omega) h2 h3
  have m := mn4_le (p.tdiv r) (p.tdiv s) (q.tdiv r) (q.tdiv s)
  have x := mx4_le (p.tdiv r) (p.tdiv s) (q.tdiv r) (q.tdiv s)
  omega
theorem pow_mono {r k : Int} (h1 : r ≤ k) : (2 : Int) ^ r.toNat ≤ 2 ^ k.toNat := by
  have h := Nat.pow_le_pow_right (show 0 < 2 by decide) (show r.toNat ≤ k.toNat by omega)
  have e : ∀ n : Nat, ((2 : Int) ^ n) = ((2 ^ n : Nat) : Int) := by intro n; simp
  rw [e, e]; omega
theorem shr_corners {p q r s i k : Int} (hs : s ≤ 31) (h0 : p ≤ i) (h1 : i ≤ q) (h2 : r ≤ k) (h3 : k ≤ s) :
    mn4 (p / 2 ^ r.toNat) (p / 2 ^ s.toNat) (q / 2 ^ r.toNat) (q / 2 ^ s.toNat) ≤ i / 2 ^ k.toNat ∧ i / 2 ^ k.toNat ≤ mx4 (p / 2 ^ r.toNat) (p / 2 ^ s.toNat) (q / 2 ^ r.toNat) (q / 2 ^ s.toNat) := by
  have pr := pow_bd (k := r.toNat) (by omega)
  have pk := pow_bd (k := k.toNat) (by omega)
  have m1 := pow_mono h2
  have m2 := pow_mono h3
  have a := Int.ediv_le_ediv (c := 2 ^ k.toNat) (by omega) h0
  have a' := Int.ediv_le_ediv (c := 2 ^ k.toNat) (by omega) h1
  have b := ediv_between p (by omega) m1 m2
  have c := ediv_between q (by omega) m1 m2
  have m := mn4_le (p / 2 ^ r.toNat) (p / 2 ^ s.toNat) (q / 2 ^ r.toNat) (q / 2 ^ s.toNat)
  have x := mx4_le (p / 2 ^ r.toNat) (p / 2 ^ s.toNat) (q / 2 ^ r.toNat) (q / 2 ^ s.toNat)
  generalize p / 2 ^ r.toNat = pr' at *
  generalize p / 2 ^ s.toNat = ps' at *
  generalize q / 2 ^ r.toNat = qr' at *
  generalize q / 2 ^ s.toNat = qs' at *
  generalize p / 2 ^ k.toNat = pk' at *
  generalize q / 2 ^ k.toNat = qk' at *
  generalize i / 2 ^ k.toNat = ik' at *
  omega

theorem truth_in (x y t : Bool) (hx : x = true → t = true) (hy : y = true → t = false) : InI (truthF x y) (if t = true then 1 else 0) := by
  cases x <;> cases y <;> cases t <;> first | exact absurd (hx rfl) (by decide) | exact absurd (hy rfl) (by decide) | exact ⟨by decide, by decide⟩
theorem w32_ite (c : Prop) [Decidable c] (x y : Int) (hx : wrap32 x = x) (hy : wrap32 y = y) : wrap32 (if c then x else y) = if c then x else y := by split <;> assumption
theorem w32_0 : wrap32 0 = 0 := by unfold wrap32; decide
theorem w32_1 : wrap32 1 = 1 := by unfold wrap32; decide
theorem toNat32 {i : Int} (h0 : 0 ≤ i) (h1 : i ≤ 2147483647) : (BitVec.ofInt 32 i).toNat = i.toNat := by
  rw [BitVec.toNat_ofInt]
  have h2 : ((2 ^ 32 : Nat) : Int) = 4294967296 := by decide
  rw [h2]; omega
theorem toInt_small {X : BitVec 32} (h : X.toNat < 2147483648) : X.toInt = (X.toNat : Int) := by
  rw [BitVec.toInt_eq_toNat_cond, if_pos (by omega)]
theorem and_in {i : Int} (k : Int) (h0 : 0 ≤ i) (h1 : i ≤ 2147483647) : 0 ≤ wdo 6 i k ∧ wdo 6 i k ≤ i := by
  rw [wdo6]
  have hx := toNat32 h0 h1
  have hl : (BitVec.ofInt 32 i &&& BitVec.ofInt 32 k).toNat ≤ i.toNat := by
    rw [BitVec.toNat_and, hx]; exact Nat.and_le_left
  rw [toInt_small (by omega)]
  omega
theorem wdo6_comm (i k : Int) : wdo 6 i k = wdo 6 k i := by rw [wdo6, wdo6, BitVec.and_comm]
theorem or_in {i k : Int} {j : Nat} (h0 : 0 ≤ i) (h1 : i ≤ 2147483647) (h2 : 0 ≤ k) (h3 : k ≤ 2147483647) (hi : i.toNat < 2 ^ j) (hk : k.toNat < 2 ^ j) : i ≤ wdo 7 i k ∧ k ≤ wdo 7 i k ∧ wdo 7 i k + 1 ≤ ((2 ^ j : Nat) : Int) := by
  rw [wdo7]
  have hx := toNat32 h0 h1
  have hy := toNat32 h2 h3
  have e : (BitVec.ofInt 32 i ||| BitVec.ofInt 32 k).toNat = i.toNat ||| k.toNat := by rw [BitVec.toNat_or, hx, hy]
  have a := @Nat.left_le_or i.toNat k.toNat
  have b := @Nat.right_le_or i.toNat k.toNat
  have c := Nat.or_lt_two_pow hi hk
  have d := Nat.or_lt_two_pow (n := 31) (x := i.toNat) (y := k.toNat) (by omega) (by omega)
  rw [toInt_small (by rw [e]; omega), e]
  omega
theorem xor_in {i k : Int} {j : Nat} (h0 : 0 ≤ i) (h1 : i ≤ 2147483647) (h2 : 0 ≤ k) (h3 : k ≤ 2147483647) (hi : i.toNat < 2 ^ j) (hk : k.toNat < 2 ^ j) : 0 ≤ wdo 8 i k ∧ wdo 8 i k + 1 ≤ ((2 ^ j : Nat) : Int) := by
  rw [wdo8]
  have hx := toNat32 h0 h1
  have hy := toNat32 h2 h3
  have e : (BitVec.ofInt 32 i ^^^ BitVec.ofInt 32 k).toNat = i.toNat ^^^ k.toNat := by rw [BitVec.toNat_xor, hx, hy]
  have c := Nat.xor_lt_two_pow hi hk
  have d := Nat.xor_lt_two_pow (n := 31) (x := i.toNat) (y := k.toNat) (by omega) (by omega)
  rw [toInt_small (by rw [e]; omega), e]
  omega
theorem mask_pow (m n : Int) (h : ∃ j : Nat, m + 1 = ((2 ^ j : Nat) : Int)) : ∃ j : Nat, maskG m n + 1 = ((2 ^ j : Nat) : Int) := by
  fun_induction maskG m n with
  | case1 m h0 ih =>
    obtain ⟨j, hj⟩ := h
    exact ih ⟨j + 1, by rw [Nat.pow_succ]; omega⟩
  | case2 m h0 => exact h
theorem mask0 (n : Int) : ∃ j : Nat, maskG 0 n + 1 = ((2 ^ j : Nat) : Int) := mask_pow 0 n ⟨0, rfl⟩

/-! ### The operators, one by one: i in [p, q], k in [r, s], all words -/
section
variable {p q r s i k : Int} (b0 : -2147483648 ≤ p) (h0 : p ≤ i) (h1 : i ≤ q) (b3 : q ≤ 2147483647) (b4 : -2147483648 ≤ r) (h2 : r ≤ k) (h3 : k ≤ s) (b7 : s ≤ 2147483647)
include b0 h0 h1 b3 b4 h2 h3 b7
theorem wi : wrap32 i = i := w32_of i (by omega) (by omega)
theorem wk : wrap32 k = k := w32_of k (by omega) (by omega)
theorem w_at (op : Int) : wdo op i k = wrap32 (wraw op i k) := by
  unfold wdo; rw [wi b0 h0 h1 b3 b4 h2 h3 b7, wk b0 h0 h1 b3 b4 h2 h3 b7]
theorem sound1 : InI (do1F 1 p q r s) (wdo 1 i k) := by
  rw [w_at b0 h0 h1 b3 b4 h2 h3 b7 1]
  have m := mn_le (p + r) (q + s); have x := mx_le (p + r) (q + s)
  exact in_around (v := i + k) (by omega) (by omega)
theorem sound2 : InI (do1F 2 p q r s) (wdo 2 i k) := by
  rw [w_at b0 h0 h1 b3 b4 h2 h3 b7 2]
  have m := mn_le (p - s) (q - r); have x := mx_le (p - s) (q - r)
  exact in_around (v := i - k) (by omega) (by omega)
theorem sound3 : InI (do1F 3 p q r s) (wdo 3 i k) := by
  rw [w_at b0 h0 h1 b3 b4 h2 h3 b7 3]
  have m := mul_corners h0 h1 h2 h3
  exact in_around (v := i * k) m.1 m.2
theorem sound4 : InI (do1F 4 p q r s) (wdo 4 i k) := by
  rw [w_at b0 h0 h1 b3 b4 h2 h3 b7 4]
  have e : wraw 4 i k = if k = 0 then 0 else i.tdiv k := rfl
  by_cases c : 1 ≤ r
  · have e2 : do1F 4 p q r s = quoF p q r s := if_pos c
    have m := tdiv_corners c h0 h1 h2 h3
    rw [e2, e, if_neg (by omega)]
    exact in_around m.1 m.2
  · have e2 : do1F 4 p q r s = allP := if_neg c
    rw [e2]; exact in_all _
theorem sound5 : InI (do1F 5 p q r s) (wdo 5 i k) := by
  rw [w_at b0 h0 h1 b3 b4 h2 h3 b7 5]
  have e : wraw 5 i k = if k = 0 then 0 else i.tmod k := rfl
  by_cases c : 1 ≤ r
  · have e2 : do1F 5 p q r s = remF p q s := if_pos c
    rw [e2, e, if_neg (by omega)]
    have hb : (i.tmod k).natAbs < k.natAbs := by rw [Int.natAbs_tmod]; exact Nat.mod_lt _ (by omega)
    have hi : (i.tmod k).natAbs ≤ i.natAbs := by rw [Int.natAbs_tmod]; exact Nat.mod_le _ _
    have hs : 0 ≤ i → 0 ≤ i.tmod k := fun h => Int.tmod_nonneg _ h
    have hn : i ≤ 0 → i.tmod k ≤ 0 := fun h => by
      have := Int.tmod_nonneg k (show 0 ≤ -i by omega)
      rw [Int.neg_tmod] at this; omega
    rw [w32_of _ (by omega) (by omega)]
    unfold remF InI mnI mxI
    simp only
    constructor
    · split <;> (try split) <;> omega
    · split <;> (try split) <;> omega
  · have e2 : do1F 5 p q r s = allP := if_neg c
    rw [e2]; exact in_all _
theorem sound9 : InI (do1F 9 p q r s) (wdo 9 i k) := by
  rw [w_at b0 h0 h1 b3 b4 h2 h3 b7 9, do1F_9]
  by_cases c : r = s ∧ 0 ≤ r ∧ r ≤ 31 ∧ 0 ≤ p ∧ q * 2 ^ r.toNat ≤ 2147483647
  · rw [if_pos c]
    obtain ⟨c1, c2, c3, c4, c5⟩ := c
    have ek : k = r := by omega
    have e : wraw 9 i k = i * 2 ^ (k % 32).toNat := rfl
    rw [e, show k % 32 = r by omega]
    have pb := pow_bd (k := r.toNat) (by omega)
    have m1 : p * 2 ^ r.toNat ≤ i * 2 ^ r.toNat := Int.mul_le_mul_of_nonneg_right h0 (by omega)
    have m2 : i * 2 ^ r.toNat ≤ q * 2 ^ r.toNat := Int.mul_le_mul_of_nonneg_right h1 (by omega)
    have m3 : 0 ≤ p * 2 ^ r.toNat := Int.mul_nonneg c4 (by omega)
    rw [w32_of _ (by omega) (by omega)]
    exact ⟨m1, m2⟩
  · rw [if_neg c]; exact in_all _
theorem sound10 : InI (do1F 10 p q r s) (wdo 10 i k) := by
  rw [w_at b0 h0 h1 b3 b4 h2 h3 b7 10, do1F_10]
  have e : wraw 10 i k = i / 2 ^ (k % 32).toNat := rfl
  rw [e]
  by_cases c : 0 ≤ r ∧ s ≤ 31
  · rw [if_pos c, show k % 32 = k by omega]
    have m := shr_corners c.2 h0 h1 h2 h3
    exact in_around m.1 m.2
  · rw [if_neg c]
    have pb := pow_bd (k := (k % 32).toNat) (by omega)
    have a : 0 ≤ i → 0 ≤ i / 2 ^ (k % 32).toNat ∧ i / 2 ^ (k % 32).toNat ≤ i := fun h => ⟨Int.ediv_nonneg h (by omega), Int.ediv_le_self _ h⟩
    have b : i < 0 → i ≤ i / 2 ^ (k % 32).toNat ∧ i / 2 ^ (k % 32).toNat ≤ 0 := fun h => by
      constructor
      · have := ediv_mono_neg (a := i) (b := 1) h (by omega) pb.1
        simpa using this
      · have := Int.ediv_le_ediv (c := 2 ^ (k % 32).toNat) (by omega) (show i ≤ 0 by omega)
        simpa using this
    generalize i / 2 ^ (k % 32).toNat = v at *
    rw [w32_of v (by omega) (by omega)]
    unfold InI mnI mxI
    constructor <;> simp only <;> split <;> omega
theorem sound6 : InI (do1F 6 p q r s) (wdo 6 i k) := by
  have e : do1F 6 p q r s = bitF 6 p q r s := rfl
  rw [e]; unfold bitF
  by_cases c : 0 ≤ p ∧ 0 ≤ r
  · rw [if_pos c, if_pos rfl]
    have x := and_in k (show 0 ≤ i by omega) (by omega)
    have y := and_in i (show 0 ≤ k by omega) (by omega)
    rw [wdo6_comm k i] at y
    unfold InI mnI
    refine ⟨x.1, ?_⟩
    simp only; split <;> omega
  · rw [if_neg c]
    by_cases c1 : 0 ≤ p
    · rw [if_pos ⟨c1, rfl⟩]
      have x := and_in k (show 0 ≤ i by omega) (by omega)
      exact ⟨x.1, by simp only; omega⟩
    · rw [if_neg (fun h => c1 h.1)]
      by_cases c2 : 0 ≤ r
      · rw [if_pos ⟨c2, rfl⟩]
        have y := and_in i (show 0 ≤ k by omega) (by omega)
        rw [wdo6_comm k i] at y
        exact ⟨y.1, by simp only; omega⟩
      · rw [if_neg (fun h => c2 h.1)]; exact wdo_bd 6 i k
theorem sound7 : InI (do1F 7 p q r s) (wdo 7 i k) := by
  have e : do1F 7 p q r s = bitF 7 p q r s := rfl
  rw [e]; unfold bitF
  by_cases c : 0 ≤ p ∧ 0 ≤ r
  · rw [if_pos c, if_neg (by decide), if_pos rfl]
    obtain ⟨j, hj⟩ := mask0 (mxI q s)
    have g := maskG_ge 0 (mxI q s) (by omega)
    have x := mx_le q s
    have o := or_in (i := i) (k := k) (j := j) (by omega) (by omega) (by omega) (by omega) (by omega) (by omega)
    have z : mxI p r ≤ wdo 7 i k := by unfold mxI; split <;> omega
    exact ⟨z, by simp only; omega⟩
  · rw [if_neg c, if_neg (by omega), if_neg (by omega)]; exact wdo_bd 7 i k
theorem sound8 : InI (do1F 8 p q r s) (wdo 8 i k) := by
  have e : do1F 8 p q r s = bitF 8 p q r s := rfl
  rw [e]; unfold bitF
  by_cases c : 0 ≤ p ∧ 0 ≤ r
  · rw [if_pos c, if_neg (by decide), if_neg (by decide)]
    obtain ⟨j, hj⟩ := mask0 (mxI q s)
    have g := maskG_ge 0 (mxI q s) (by omega)
    have x := mx_le q s
    have o := xor_in (i := i) (k := k) (j := j) (by omega) (by omega) (by omega) (by omega) (by omega) (by omega)
    exact ⟨o.1, by simp only; omega⟩
  · rw [if_neg c, if_neg (by omega), if_neg (by omega)]; exact wdo_bd 8 i k
theorem sound11 : InI (do1F 11 p q r s) (wdo 11 i k) := by
  rw [w_at b0 h0 h1 b3 b4 h2 h3 b7 11]
  have e : wraw 11 i k = if i < k then 1 else 0 := rfl
  have t := truth_in (decide (q < r)) (decide (s ≤ p)) (decide (i < k)) (by simp only [decide_eq_true_eq]; omega) (by simp only [decide_eq_true_eq, decide_eq_false_iff_not]; omega)
  simp only [decide_eq_true_eq] at t
  rw [e, w32_ite _ _ _ w32_1 w32_0]; exact t
theorem sound12 : InI (do1F 12 p q r s) (wdo 12 i k) := by
  rw [w_at b0 h0 h1 b3 b4 h2 h3 b7 12]
  have e : wraw 12 i k = if i ≤ k then 1 else 0 := rfl
  have t := truth_in (decide (q ≤ r)) (decide (s < p)) (decide (i ≤ k)) (by simp only [decide_eq_true_eq]; omega) (by simp only [decide_eq_true_eq, decide_eq_false_iff_not]; omega)
  simp only [decide_eq_true_eq] at t
  rw [e, w32_ite _ _ _ w32_1 w32_0]; exact t
theorem sound13 : InI (do1F 13 p q r s) (wdo 13 i k) := by
  rw [w_at b0 h0 h1 b3 b4 h2 h3 b7 13]
  have e : wraw 13 i k = if i = k then 1 else 0 := rfl
  have t := truth_in (decide (p = q ∧ r = s ∧ p = r)) (decide (q < r ∨ s < p)) (decide (i = k)) (by simp only [decide_eq_true_eq]; omega) (by simp only [decide_eq_true_eq, decide_eq_false_iff_not]; omega)
  simp only [decide_eq_true_eq] at t
  rw [e, w32_ite _ _ _ w32_1 w32_0]; exact t
theorem sound14 : InI (do1F 14 p q r s) (wdo 14 i k) := by
  rw [w_at b0 h0 h1 b3 b4 h2 h3 b7 14]
  have e : wraw 14 i k = if i = k then 0 else 1 := rfl
  have t := truth_in (decide (q < r ∨ s < p)) (decide (p = q ∧ r = s ∧ p = r)) (decide (¬ i = k)) (by simp only [decide_eq_true_eq]; omega) (by simp only [decide_eq_true_eq, decide_eq_false_iff_not]; omega)
  simp only [decide_eq_true_eq] at t
  rw [e, w32_ite _ _ _ w32_0 w32_1]
  by_cases c : i = k
  · rw [if_pos c]; rw [if_neg (fun h => h c)] at t; exact t
  · rw [if_neg c]; rw [if_pos c] at t; exact t
theorem sound_do1 (op : Int) (o1 : 1 ≤ op) (o2 : op ≤ 14) : InI (do1F op p q r s) (wdo op i k) := by
  have hop : op = 1 ∨ op = 2 ∨ op = 3 ∨ op = 4 ∨ op = 5 ∨ op = 6 ∨ op = 7 ∨ op = 8 ∨ op = 9 ∨ op = 10 ∨ op = 11 ∨ op = 12 ∨ op = 13 ∨ op = 14 := by omega
  rcases hop with rfl | rfl | rfl | rfl | rfl | rfl | rfl | rfl | rfl | rfl | rfl | rfl | rfl | rfl
  · exact sound1 b0 h0 h1 b3 b4 h2 h3 b7
  · exact sound2 b0 h0 h1 b3 b4 h2 h3 b7
  · exact sound3 b0 h0 h1 b3 b4 h2 h3 b7
  · exact sound4 b0 h0 h1 b3 b4 h2 h3 b7
  · exact sound5 b0 h0 h1 b3 b4 h2 h3 b7
  · exact sound6 b0 h0 h1 b3 b4 h2 h3 b7
  · exact sound7 b0 h0 h1 b3 b4 h2 h3 b7
  · exact sound8 b0 h0 h1 b3 b4 h2 h3 b7
  · exact sound9 b0 h0 h1 b3 b4 h2 h3 b7
  · exact sound10 b0 h0 h1 b3 b4 h2 h3 b7
  · exact sound11 b0 h0 h1 b3 b4 h2 h3 b7
  · exact sound12 b0 h0 h1 b3 b4 h2 h3 b7
  · exact sound13 b0 h0 h1 b3 b4 h2 h3 b7
  · exact sound14 b0 h0 h1 b3 b4 h2 h3 b7
end
/-- The result of an operator for words of two intervals lies in Do's interval. -/
theorem do_sound {p q r s i k : Int} (op : Int) (o1 : 1 ≤ op) (o2 : op ≤ 14) (fp : Fixed p q) (fr : Fixed r s) (h0 : p ≤ i) (h1 : i ≤ q) (h2 : r ≤ k) (h3 : k ≤ s) : InI (doF op p q r s) (wdo op i k) := by
  rw [doF_ne op (by omega) (by omega)]
  have x := fp.bd
  have y := fr.bd
  exact sound_do1 x.1 h0 h1 x.2.2.2 y.1 h2 h3 y.2.2.2 op o1 o2
end Go.Proofs.Ytdooadomkifbbaa
