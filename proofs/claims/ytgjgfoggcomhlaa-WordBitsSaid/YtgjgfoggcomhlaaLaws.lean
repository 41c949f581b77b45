/-
  The laws of words, in plain Lean: the ring, division and shifts, comparisons, the operators of bits. Every word; the conditions stand in each statement.
-/
import Derived.Test.YtgjgfoggcomhlaaPlain
namespace Go.Proofs.Ytgjgfoggcomhlaa
open Go.RowKit

theorem bd_i32 {x : Int} (h : (Lit.int .i32 x).wf = true) : -2147483648 ≤ x ∧ x ≤ 2147483647 := by
  simp [Lit.wf, IntKind.min, IntKind.max, IntKind.signed, IntKind.bits] at h
  exact ⟨by omega, by omega⟩
theorem bd_u8 {x : Int} (h : (Lit.int .u8 x).wf = true) : 0 ≤ x ∧ x ≤ 255 := by
  simp [Lit.wf, IntKind.min, IntKind.max, IntKind.signed, IntKind.bits] at h
  exact ⟨by omega, by omega⟩
theorem bd_u32 {x : Int} (h : (Lit.int .u32 x).wf = true) : 0 ≤ x ∧ x ≤ 4294967295 := by
  simp [Lit.wf, IntKind.min, IntKind.max, IntKind.signed, IntKind.bits] at h
  exact ⟨by omega, by omega⟩
theorem bd_i64 {x : Int} (h : (Lit.int .i64 x).wf = true) : -9223372036854775808 ≤ x ∧ x ≤ 9223372036854775807 := by
  simp [Lit.wf, IntKind.min, IntKind.max, IntKind.signed, IntKind.bits] at h
  exact ⟨by omega, by omega⟩

/-! ### The ring -/
theorem back32 (x : Int) (h0 : -2147483648 ≤ x) (h1 : x ≤ 2147483647) : (BitVec.ofInt 32 x).toInt = x := by rw [toInt32, w32_of x h0 h1]
theorem add_comm' (x y : Int) : wdo 1 x y = wdo 1 y x := by rw [wdo1, wdo1, BitVec.add_comm]
theorem add_assoc' (x y z : Int) : wdo 1 x (wdo 1 y z) = wdo 1 (wdo 1 x y) z := by
  simp only [wdo1, BitVec.ofInt_toInt]; rw [BitVec.add_assoc]
theorem mul_add' (x y z : Int) : wdo 3 x (wdo 1 y z) = wdo 1 (wdo 3 x y) (wdo 3 x z) := by
  simp only [wdo1, wdo3, BitVec.ofInt_toInt]; rw [BitVec.mul_add]
theorem sub_back (x y : Int) (h0 : -2147483648 ≤ x) (h1 : x ≤ 2147483647) : wdo 2 (wdo 1 x y) y = x := by
  simp only [wdo1, wdo2, BitVec.ofInt_toInt]; rw [BitVec.add_sub_cancel, back32 x h0 h1]
theorem high32 (x k : Int) : BitVec.ofInt 32 (wrap64 (x + k * 4294967296)) = BitVec.ofInt 32 x := by
  rw [ofInt32_w64]
  apply BitVec.eq_of_toInt_eq; rw [toInt32, toInt32]; unfold wrap32; omega
theorem mul_high (x y k m : Int) : wdo 3 x y = wdo 3 (wrap64 (x + k * 4294967296)) (wrap64 (y + m * 4294967296)) := by
  simp only [wdo3, high32]
theorem xor_back (x y : Int) (h0 : -2147483648 ≤ x) (h1 : x ≤ 2147483647) : wdo 8 (wdo 8 x y) y = x := by
  simp only [wdo8, BitVec.ofInt_toInt]; rw [BitVec.xor_assoc, BitVec.xor_self, BitVec.xor_zero, back32 x h0 h1]

/-! ### The operators of bits -/
theorem ones32 : BitVec.ofInt 32 (-1) = BitVec.allOnes 32 := by decide
theorem morgan (x y : Int) : wdo 8 (wdo 6 x y) (-1) = wdo 7 (wdo 8 x (-1)) (wdo 8 y (-1)) := by
  simp only [wdo6, wdo7, wdo8, BitVec.ofInt_toInt, ones32]
  congr 1
  ext i hi
  simp only [BitVec.getElem_xor, BitVec.getElem_and, BitVec.getElem_or, BitVec.getElem_allOnes]
  cases (BitVec.ofInt 32 x)[i] <;> cases (BitVec.ofInt 32 y)[i] <;> rfl
theorem absorb (x y : Int) (h0 : -2147483648 ≤ x) (h1 : x ≤ 2147483647) : wdo 7 x (wdo 6 x y) = x := by
  simp only [wdo6, wdo7, BitVec.ofInt_toInt]
  have e : BitVec.ofInt 32 x ||| (BitVec.ofInt 32 x &&& BitVec.ofInt 32 y) = BitVec.ofInt 32 x := by
    ext i hi
    simp only [BitVec.getElem_and, BitVec.getElem_or]
    cases (BitVec.ofInt 32 x)[i] <;> cases (BitVec.ofInt 32 y)[i] <;> rfl
  rw [e, back32 x h0 h1]
theorem and_or' (x y z : Int) : wdo 6 x (wdo 7 y z) = wdo 7 (wdo 6 x y) (wdo 6 x z) := by
  simp only [wdo6, wdo7, BitVec.ofInt_toInt]
  congr 1
  ext i hi
  simp only [BitVec.getElem_and, BitVec.getElem_or]
  cases (BitVec.ofInt 32 x)[i] <;> cases (BitVec.ofInt 32 y)[i] <;> cases (BitVec.ofInt 32 z)[i] <;> rfl
theorem disj_add (X Y : BitVec 32) (h : X &&& Y = 0#32) : X + Y = X ||| Y := BitVec.add_eq_or_of_and_eq_zero X Y h
theorem and_add_xor (X Y : BitVec 32) : (X &&& Y) + (X ^^^ Y) = X ||| Y := by
  rw [disj_add]
  · ext i hi
    simp only [BitVec.getElem_xor, BitVec.getElem_and, BitVec.getElem_or]
    cases X[i] <;> cases Y[i] <;> rfl
  · ext i hi
    simp only [BitVec.getElem_xor, BitVec.getElem_and, BitVec.getElem_zero]
    cases X[i] <;> cases Y[i] <;> rfl
theorem part_add (X Y : BitVec 32) : (X &&& ~~~Y) + (X &&& Y) = X := by
  rw [disj_add]
  · ext i hi
    simp only [BitVec.getElem_and, BitVec.getElem_or, BitVec.getElem_not]
    cases X[i] <;> cases Y[i] <;> rfl
  · ext i hi
    simp only [BitVec.getElem_and, BitVec.getElem_zero, BitVec.getElem_not]
    cases X[i] <;> cases Y[i] <;> rfl
theorem part_or (X Y : BitVec 32) : (X &&& ~~~Y) + Y = X ||| Y := by
  rw [disj_add]
  · ext i hi
    simp only [BitVec.getElem_and, BitVec.getElem_or, BitVec.getElem_not]
    cases X[i] <;> cases Y[i] <;> rfl
  · ext i hi
    simp only [BitVec.getElem_and, BitVec.getElem_zero, BitVec.getElem_not]
    cases X[i] <;> cases Y[i] <;> rfl
theorem or_add_and (X Y : BitVec 32) : (X ||| Y) + (X &&& Y) = X + Y := by
  rw [← part_or X Y, BitVec.add_assoc, BitVec.add_comm Y, ← BitVec.add_assoc, part_add]
theorem sum_or (x y : Int) : wdo 1 (wdo 6 x y) (wdo 8 x y) = wdo 7 x y := by
  simp only [wdo1, wdo6, wdo7, wdo8, BitVec.ofInt_toInt, and_add_xor]
theorem sum_two (x y : Int) : wdo 1 (wdo 7 x y) (wdo 6 x y) = wdo 1 x y := by
  simp only [wdo1, wdo6, wdo7, BitVec.ofInt_toInt, or_add_and]

/-! ### Comparisons, at words -/
section
variable (x y : Int) (h0 : -2147483648 ≤ x) (h1 : x ≤ 2147483647) (h2 : -2147483648 ≤ y) (h3 : y ≤ 2147483647)
include h0 h1 h2 h3
theorem wdo11 : wdo 11 x y = if x < y then 1 else 0 := by
  show wrap32 (if wrap32 x < wrap32 y then 1 else 0) = _
  rw [w32_of x h0 h1, w32_of y h2 h3]; split <;> exact w32_of _ (by decide) (by decide)
theorem wdo12 : wdo 12 x y = if x ≤ y then 1 else 0 := by
  show wrap32 (if wrap32 x ≤ wrap32 y then 1 else 0) = _
  rw [w32_of x h0 h1, w32_of y h2 h3]; split <;> exact w32_of _ (by decide) (by decide)
theorem wdo13 : wdo 13 x y = if x = y then 1 else 0 := by
  show wrap32 (if wrap32 x = wrap32 y then 1 else 0) = _
  rw [w32_of x h0 h1, w32_of y h2 h3]; split <;> exact w32_of _ (by decide) (by decide)
theorem wdo14 : wdo 14 x y = if x = y then 0 else 1 := by
  show wrap32 (if wrap32 x = wrap32 y then 0 else 1) = _
  rw [w32_of x h0 h1, w32_of y h2 h3]; split <;> exact w32_of _ (by decide) (by decide)

/-! ### Division and shifts, at words -/
theorem wdo4 : wdo 4 x y = wrap32 (if y = 0 then 0 else x.tdiv y) := by
  show wrap32 (if wrap32 y = 0 then 0 else (wrap32 x).tdiv (wrap32 y)) = _
  rw [w32_of x h0 h1, w32_of y h2 h3]
omit h0 h1 h2 h3 in
theorem tmod_bd (x y : Int) (h : y ≠ 0) : (x.tmod y).natAbs < y.natAbs := by
  rw [Int.natAbs_tmod]; exact Nat.mod_lt _ (by omega)
theorem wdo5 : wdo 5 x y = if y = 0 then 0 else x.tmod y := by
  show wrap32 (if wrap32 y = 0 then 0 else (wrap32 x).tmod (wrap32 y)) = _
  rw [w32_of x h0 h1, w32_of y h2 h3]
  split
  · exact w32_of 0 (by decide) (by decide)
  · have := tmod_bd x y ‹_›
    exact w32_of _ (by omega) (by omega)
theorem div_back (hy : y ≠ 0) : wdo 1 (wdo 3 (wdo 4 x y) y) (wdo 5 x y) = x := by
  rw [wdo4 x y h0 h1 h2 h3, wdo5 x y h0 h1 h2 h3, if_neg hy, if_neg hy, wdo1, wdo3, BitVec.ofInt_toInt, ofInt32_w, ← BitVec.ofInt_mul, ← BitVec.ofInt_add,
    Int.mul_comm, Int.mul_tdiv_add_tmod, back32 x h0 h1]
theorem rem_small (hy : y ≠ 0) : wdo 5 x y * wdo 5 x y < y * y := by
  rw [wdo5 x y h0 h1 h2 h3, if_neg hy]
  have := tmod_bd x y hy
  rw [← Int.natAbs_mul_self, ← Int.natAbs_mul_self (a := y)]
  exact_mod_cast Nat.mul_self_lt_mul_self this
theorem rem_sign (hy : y ≠ 0) : 0 ≤ wdo 5 x y * x := by
  rw [wdo5 x y h0 h1 h2 h3, if_neg hy]
  by_cases hx : 0 ≤ x
  · exact Int.mul_nonneg (Int.tmod_nonneg y hx) hx
  · have e : x.tmod y = -((-x).tmod y) := by rw [Int.neg_tmod, Int.neg_neg]
    have := Int.tmod_nonneg y (show 0 ≤ -x by omega)
    rw [e, Int.neg_mul, ← Int.mul_neg]
    exact Int.mul_nonneg this (by omega)
end
theorem toNat_small {k : Int} (h0 : 0 ≤ k) (h1 : k ≤ 30) : (wrap32 k % 32).toNat = k.toNat := by
  rw [w32_of k (by omega) (by omega)]; congr 1; omega
theorem shr_in (x k : Int) (h0 : -2147483648 ≤ x) (h1 : x ≤ 2147483647) (k0 : 0 ≤ k) (k1 : k ≤ 30) : wdo 10 x k = x / 2 ^ k.toNat := by
  show wrap32 (wrap32 x / 2 ^ (wrap32 k % 32).toNat) = _
  rw [toNat_small k0 k1, w32_of x h0 h1]
  have hp : (0 : Int) < 2 ^ k.toNat := Int.pow_pos (by decide)
  generalize (2 : Int) ^ k.toNat = p at *
  have hq1 : (1 : Int) ≤ p := hp
  have := Int.mul_ediv_add_emod x p
  have hm0 := Int.emod_nonneg x (b := p) (by omega)
  have hm1 := Int.emod_lt_of_pos x hp
  apply w32_of
  · rw [Int.le_ediv_iff_mul_le hp]
    have : (-2147483648 : Int) * p ≤ -2147483648 * 1 := Int.mul_le_mul_of_nonpos_left (by decide) hq1
    omega
  · by_cases hx : 0 ≤ x
    · have := Int.ediv_le_self p hx; omega
    · have := Int.ediv_neg_of_neg_of_pos (show x < 0 by omega) hp; omega
theorem shl_mul (x k : Int) (k0 : 0 ≤ k) (k1 : k ≤ 30) : wdo 9 x k = wdo 3 x (2 ^ k.toNat) := by
  show wrap32 (wrap32 x * 2 ^ (wrap32 k % 32).toNat) = wrap32 (wrap32 x * wrap32 (2 ^ k.toNat))
  rw [toNat_small k0 k1]
  have : ((2 : Int) ^ k.toNat) ≤ 2 ^ 30 := by exact_mod_cast Nat.pow_le_pow_right (n := 2) (by decide) (show k.toNat ≤ 30 by omega)
  have hp : (0 : Int) < 2 ^ k.toNat := Int.pow_pos (by decide)
  have e : (2 : Int) ^ 30 = 1073741824 := by decide
  rw [w32_of (2 ^ k.toNat) (by omega) (by omega)]
theorem shr_low (x k : Int) (h0 : -2147483648 ≤ x) (h1 : x ≤ 2147483647) (k0 : 0 ≤ k) (k1 : k ≤ 30) : wdo 10 x k * 2 ^ k.toNat ≤ x := by
  rw [shr_in x k h0 h1 k0 k1]
  exact Int.ediv_mul_le x (Int.ne_of_gt (Int.pow_pos (by decide)))
theorem shr_high (x k : Int) (h0 : -2147483648 ≤ x) (h1 : x ≤ 2147483647) (k0 : 0 ≤ k) (k1 : k ≤ 30) : x < (wdo 10 x k + 1) * 2 ^ k.toNat := by
  rw [shr_in x k h0 h1 k0 k1]
  exact Int.lt_ediv_add_one_mul_self x (Int.pow_pos (by decide))

/-! ### What the law of division asks, in the walk's own forms -/
/-- 1 shifted left. -/
def pw (k : Int) : Int := 2 ^ k.toNat
theorem pw_bd (k : Int) (k1 : k ≤ 30) : 1 ≤ pw k ∧ pw k ≤ 1073741824 := by
  unfold pw
  have : ((2 : Int) ^ k.toNat) ≤ 2 ^ 30 := by exact_mod_cast Nat.pow_le_pow_right (n := 2) (by decide) (show k.toNat ≤ 30 by omega)
  have hp : (0 : Int) < 2 ^ k.toNat := Int.pow_pos (by decide)
  have e : (2 : Int) ^ 30 = 1073741824 := by decide
  omega
theorem w64_of (x : Int) (h0 : -9223372036854775808 ≤ x) (h1 : x ≤ 9223372036854775807) : wrap64 x = x := by unfold wrap64; omega
theorem w64_pw (k : Int) (k1 : k ≤ 30) : wrap64 (2 ^ k.toNat) = pw k := by
  have b := pw_bd k k1
  exact w64_of (pw k) (by omega) (by omega)
theorem mul_bd (x y m n : Int) (hm : 0 ≤ m) (hx0 : -m ≤ x) (hx1 : x ≤ m) (hy0 : -n ≤ y) (hy1 : y ≤ n) : -(m * n) ≤ x * y ∧ x * y ≤ m * n := by
  have hn : 0 ≤ n := by omega
  have h : (x * y).natAbs ≤ m.natAbs * n.natAbs := by
    rw [Int.natAbs_mul]; exact Nat.mul_le_mul (by omega) (by omega)
  have e : ((m.natAbs * n.natAbs : Nat) : Int) = m * n := by
    rw [Int.natCast_mul, Int.natAbs_of_nonneg hm, Int.natAbs_of_nonneg hn]
  omega
theorem w64_mul (x y : Int) (hx0 : -2147483648 ≤ x) (hx1 : x ≤ 2147483648) (hy0 : -2147483648 ≤ y) (hy1 : y ≤ 2147483648) : wrap64 (x * y) = x * y := by
  have h := mul_bd x y 2147483648 2147483648 (by decide) (by omega) hx1 (by omega) hy1
  exact w64_of _ (by omega) (by omega)
section
variable (x y : Int) (h0 : -2147483648 ≤ x) (h1 : x ≤ 2147483647) (h2 : -2147483648 ≤ y) (h3 : y ≤ 2147483647)
include h0 h1 h2 h3
theorem dv1 (hy : y ≠ 0) : (wdo 1 (wdo 3 (wdo 4 x y) y) (wdo 5 x y) != x) = false := by rw [div_back x y h0 h1 h2 h3 hy]; simp
theorem dv2 (hy : y ≠ 0) : decide (wrap64 (y * y) ≤ wrap64 (wdo 5 x y * wdo 5 x y)) = false := by
  have b := wdo_bd 5 x y
  rw [w64_mul y y (by omega) (by omega) (by omega) (by omega), w64_mul _ _ b.1 (by omega) b.1 (by omega)]
  have := rem_small x y h0 h1 h2 h3 hy
  exact decide_eq_false (by omega)
theorem dv3 (hy : y ≠ 0) : decide (wrap64 (wdo 5 x y * x) < 0) = false := by
  have b := wdo_bd 5 x y
  rw [w64_mul _ _ b.1 (by omega) h0 (by omega)]
  have := rem_sign x y h0 h1 h2 h3 hy
  exact decide_eq_false (by omega)
end
section
variable (x k : Int) (h0 : -2147483648 ≤ x) (h1 : x ≤ 2147483647) (k0 : 0 ≤ k) (k1 : k ≤ 30)
include h0 h1 k0 k1
theorem dv4 : decide (wrap64 (wdo 10 x k * pw k) ≤ x) = true := by
  have b := wdo_bd 10 x k
  have p := pw_bd k k1
  rw [w64_mul _ _ b.1 (by omega) (by omega) (by omega)]
  exact decide_eq_true (shr_low x k h0 h1 k0 k1)
theorem dv5 : decide (x < wrap64 ((wdo 10 x k + 1) * pw k)) = true := by
  have b := wdo_bd 10 x k
  have p := pw_bd k k1
  rw [w64_mul _ _ (by omega) (by omega) (by omega) (by omega)]
  exact decide_eq_true (shr_high x k h0 h1 k0 k1)
omit h0 h1 in
theorem dv6 : (wdo 9 x k == wdo 3 x (pw k)) = true := beq_iff_eq.2 (shl_mul x k k0 k1)
end
theorem dz4 (x : Int) : wdo 4 x 0 = 0 := by
  show wrap32 (if wrap32 0 = 0 then 0 else _) = 0
  have e : wrap32 0 = 0 := w32_of 0 (by decide) (by decide)
  rw [e, if_pos rfl, e]
theorem dz5 (x : Int) : wdo 5 x 0 = 0 := by
  show wrap32 (if wrap32 0 = 0 then 0 else _) = 0
  have e : wrap32 0 = 0 := w32_of 0 (by decide) (by decide)
  rw [e, if_pos rfl, e]
end Go.Proofs.Ytgjgfoggcomhlaa
