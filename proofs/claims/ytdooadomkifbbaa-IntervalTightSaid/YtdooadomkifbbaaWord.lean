/-
  The plain arithmetic of 32-bit words, no program in sight: what each operator gives, and the laws of the ring, of division, of comparison and of the operators of bits. No condition.
-/
import Derived.WalkKit
namespace Go.Proofs.Ytdooadomkifbbaa
open Go.RowKit

/-- What an operator gives for two words, before the last wrap. -/
def wraw (op a b : Int) : Int :=
  if op = 1 then a + b else if op = 2 then a - b else if op = 3 then a * b
  else if op = 4 then (if b = 0 then 0 else a.tdiv b)
  else if op = 5 then (if b = 0 then 0 else a.tmod b)
  else if op = 6 then bits .and .i64 a b else if op = 7 then bits .or .i64 a b else if op = 8 then bits .xor .i64 a b
  else if op = 9 then a * 2 ^ (b % 32).toNat else if op = 10 then a / 2 ^ (b % 32).toNat
  else if op = 11 then (if a < b then 1 else 0) else if op = 12 then (if a ≤ b then 1 else 0)
  else if op = 13 then (if a = b then 1 else 0) else (if a = b then 0 else 1)
/-- What an operator gives for two numbers. -/
def wdo (op a b : Int) : Int := wrap32 (wraw op (wrap32 a) (wrap32 b))

theorem w32_bd (a : Int) : -2147483648 ≤ wrap32 a ∧ wrap32 a ≤ 2147483647 := by unfold wrap32; omega
theorem w32_of (a : Int) (h0 : -2147483648 ≤ a) (h1 : a ≤ 2147483647) : wrap32 a = a := by unfold wrap32; omega
theorem w32_w64 (a : Int) : wrap32 (wrap64 a) = wrap32 a := by unfold wrap32 wrap64; omega
theorem w64_w32 (a : Int) : wrap64 (wrap32 a) = wrap32 a := by unfold wrap32 wrap64; omega
theorem w32_w32 (a : Int) : wrap32 (wrap32 a) = wrap32 a := by unfold wrap32; omega
theorem w32_mod (a : Int) : wrap32 (a % 4294967296) = wrap32 a := by unfold wrap32; omega
theorem wdo_bd (op a b : Int) : -2147483648 ≤ wdo op a b ∧ wdo op a b ≤ 2147483647 := w32_bd _
theorem wdo_w32 (op a b : Int) : wrap32 (wdo op a b) = wdo op a b := w32_w32 _

/-! ### The bridge to bit vectors -/
theorem toInt32 (a : Int) : (BitVec.ofInt 32 a).toInt = wrap32 a := by
  rw [BitVec.toInt_ofInt]; unfold wrap32
  rw [Int.bmod_def]
  have h1 : (2 ^ 32 : Nat) = 4294967296 := by decide
  rw [h1]
  split <;> omega
theorem ofInt32_w (a : Int) : BitVec.ofInt 32 (wrap32 a) = BitVec.ofInt 32 a := by
  rw [← toInt32, BitVec.ofInt_toInt]
theorem ofInt32_w64 (a : Int) : BitVec.ofInt 32 (wrap64 a) = BitVec.ofInt 32 a := by
  apply BitVec.eq_of_toInt_eq; rw [toInt32, toInt32, w32_w64]
theorem ofInt32_wdo (op a b : Int) : BitVec.ofInt 32 (wdo op a b) = BitVec.ofInt 32 (wraw op (wrap32 a) (wrap32 b)) := by
  unfold wdo; rw [ofInt32_w]
theorem wdo_eq {op a b : Int} {x : BitVec 32} (h : BitVec.ofInt 32 (wraw op (wrap32 a) (wrap32 b)) = x) : wdo op a b = x.toInt := by
  rw [← h]; unfold wdo; rw [toInt32]

theorem setW (a : Int) : (BitVec.ofInt 64 a).setWidth 32 = BitVec.ofInt 32 a := by
  apply BitVec.eq_of_toNat_eq
  rw [BitVec.toNat_setWidth, BitVec.toNat_ofInt, BitVec.toNat_ofInt]
  have h1 : ((2 ^ 64 : Nat) : Int) = 18446744073709551616 := by decide
  have h2 : ((2 ^ 32 : Nat) : Int) = 4294967296 := by decide
  have h3 : (2 ^ 32 : Nat) = 4294967296 := by decide
  rw [h1, h2, h3]; omega
/-- The model's 'bits' at an int, cut to 32 bits. -/
theorem ofInt_bits64 (X : BitVec 64) : BitVec.ofInt 32 (IntKind.i64.wrap (X.toNat : Int)) = X.setWidth 32 := by
  rw [show X.setWidth 32 = (BitVec.ofInt 64 (X.toNat : Int)).setWidth 32 by rw [BitVec.ofInt_natCast, BitVec.ofNat_toNat, BitVec.setWidth_eq], setW, IntWalk.i64_left]
  exact ofInt32_w64 _
theorem bits_and32 (a b : Int) : BitVec.ofInt 32 (bits .and .i64 a b) = BitVec.ofInt 32 a &&& BitVec.ofInt 32 b := by
  show BitVec.ofInt 32 (IntKind.i64.wrap ((BitVec.ofInt 64 a &&& BitVec.ofInt 64 b).toNat : Int)) = _
  rw [ofInt_bits64, BitVec.setWidth_and, setW, setW]
theorem bits_or32 (a b : Int) : BitVec.ofInt 32 (bits .or .i64 a b) = BitVec.ofInt 32 a ||| BitVec.ofInt 32 b := by
  show BitVec.ofInt 32 (IntKind.i64.wrap ((BitVec.ofInt 64 a ||| BitVec.ofInt 64 b).toNat : Int)) = _
  rw [ofInt_bits64, BitVec.setWidth_or, setW, setW]
theorem bits_xor32 (a b : Int) : BitVec.ofInt 32 (bits .xor .i64 a b) = BitVec.ofInt 32 a ^^^ BitVec.ofInt 32 b := by
  show BitVec.ofInt 32 (IntKind.i64.wrap ((BitVec.ofInt 64 a ^^^ BitVec.ofInt 64 b).toNat : Int)) = _
  rw [ofInt_bits64, BitVec.setWidth_xor, setW, setW]

theorem wdo1 (a b : Int) : wdo 1 a b = (BitVec.ofInt 32 a + BitVec.ofInt 32 b).toInt := by
  apply wdo_eq; show BitVec.ofInt 32 (wrap32 a + wrap32 b) = _; rw [BitVec.ofInt_add, ofInt32_w, ofInt32_w]
theorem wdo2 (a b : Int) : wdo 2 a b = (BitVec.ofInt 32 a - BitVec.ofInt 32 b).toInt := by
  apply wdo_eq; show BitVec.ofInt 32 (wrap32 a - wrap32 b) = _; rw [Int.sub_eq_add_neg, BitVec.ofInt_add, BitVec.ofInt_neg, ofInt32_w, ofInt32_w, BitVec.sub_eq_add_neg]
theorem wdo3 (a b : Int) : wdo 3 a b = (BitVec.ofInt 32 a * BitVec.ofInt 32 b).toInt := by
  apply wdo_eq; show BitVec.ofInt 32 (wrap32 a * wrap32 b) = _; rw [BitVec.ofInt_mul, ofInt32_w, ofInt32_w]
theorem wdo6 (a b : Int) : wdo 6 a b = (BitVec.ofInt 32 a &&& BitVec.ofInt 32 b).toInt := by
  apply wdo_eq; show BitVec.ofInt 32 (bits .and .i64 (wrap32 a) (wrap32 b)) = _; rw [bits_and32, ofInt32_w, ofInt32_w]
theorem wdo7 (a b : Int) : wdo 7 a b = (BitVec.ofInt 32 a ||| BitVec.ofInt 32 b).toInt := by
  apply wdo_eq; show BitVec.ofInt 32 (bits .or .i64 (wrap32 a) (wrap32 b)) = _; rw [bits_or32, ofInt32_w, ofInt32_w]
theorem wdo8 (a b : Int) : wdo 8 a b = (BitVec.ofInt 32 a ^^^ BitVec.ofInt 32 b).toInt := by
  apply wdo_eq; show BitVec.ofInt 32 (bits .xor .i64 (wrap32 a) (wrap32 b)) = _; rw [bits_xor32, ofInt32_w, ofInt32_w]

/-! ### The mask of a shift's count -/
theorem and_pow (a : Int) (k : Nat) (hk : k ≤ 62) : bits .and .i64 a (2 ^ k - 1) = a % 2 ^ k := by
  show IntKind.i64.wrap ((BitVec.ofInt 64 a &&& BitVec.ofInt 64 (2 ^ k - 1)).toNat : Int) = _
  have hp : (2 : Nat) ^ k ≤ 2 ^ 62 := Nat.pow_le_pow_right (by decide) hk
  have hp0 : 0 < (2 : Nat) ^ k := Nat.two_pow_pos k
  have hp64 : (2 : Nat) ^ 62 = 4611686018427387904 := by decide
  have hc : ((2 : Int) ^ k - 1) = ((2 ^ k - 1 : Nat) : Int) := by
    rw [Int.natCast_sub (by omega)]; simp
  have e1 : (BitVec.ofInt 64 ((2 : Int) ^ k - 1)).toNat = 2 ^ k - 1 := by
    rw [hc, BitVec.ofInt_natCast, BitVec.toNat_ofNat]; exact Nat.mod_eq_of_lt (by omega)
  rw [BitVec.toNat_and, e1, Nat.and_two_pow_sub_one_eq_mod, BitVec.toNat_ofInt]
  have hpk : ((2 : Int) ^ k) = ((2 ^ k : Nat) : Int) := by simp
  have hd : ((2 ^ k : Nat) : Int) ∣ ((2 ^ 64 : Nat) : Int) := Int.natCast_dvd_natCast.2 (Nat.pow_dvd_pow 2 (by omega))
  have e2 : (((a % ((2 ^ 64 : Nat) : Int)).toNat % 2 ^ k : Nat) : Int) = a % 2 ^ k := by
    rw [Int.natCast_emod, Int.toNat_of_nonneg (Int.emod_nonneg _ (by decide)), hpk, Int.emod_emod_of_dvd a hd]
  rw [e2, hpk, IntKind.wrap_i64]
  have h0 := Int.emod_nonneg a (b := ((2 ^ k : Nat) : Int)) (by omega)
  have h1 := Int.emod_lt_of_pos a (b := ((2 ^ k : Nat) : Int)) (by omega)
  generalize a % ((2 ^ k : Nat) : Int) = r at *
  omega
theorem and31 (a : Int) : bits .and .i64 a 31 = a % 32 := and_pow a 5 (by decide)

end Go.Proofs.Ytdooadomkifbbaa
