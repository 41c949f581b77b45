/-
  Residues of words, in plain Lean: a residue is 'low b r', the words that are r modulo 2^b (b at most 30, or 32 for one word). No program in sight; no condition.
-/
import Derived.Test.YtaphfmbloappkaaDoorWord
import Derived.Lib.TrailingZeros
namespace Go.Proofs.YtaphfmbloappkaaDoor
open Go.RowKit

/-- How many of the lowest bits of a number are 0; 64 for the number 0. -/
def zerosI (n : Int) : Int := (Lib.ctz 64 (n % 18446744073709551616).toNat : Nat)

theorem pow_cast (k : Nat) : ((2 : Int) ^ k) = ((2 ^ k : Nat) : Int) := by simp
theorem pow_pos' (k : Nat) : (0 : Int) < 2 ^ k := by rw [pow_cast]; have := Nat.two_pow_pos k; omega
theorem pow_dvd {a b : Nat} (h : a ≤ b) : (2 : Int) ^ a ∣ 2 ^ b := by
  obtain ⟨c, rfl⟩ := Nat.exists_eq_add_of_le h
  exact ⟨2 ^ c, by rw [Int.pow_add]⟩
theorem pow_le {a b : Nat} (h : a ≤ b) : (2 : Int) ^ a ≤ 2 ^ b := by
  have := Nat.pow_le_pow_right (show 0 < 2 by decide) h
  rw [pow_cast, pow_cast]; omega
theorem pow_le_iff {a b : Nat} : (2 : Int) ^ a ≤ 2 ^ b ↔ a ≤ b := by
  constructor
  · intro h
    rcases Nat.lt_or_ge b a with h' | h'
    · have := Nat.pow_lt_pow_right (show 1 < 2 by decide) h'
      rw [pow_cast, pow_cast] at h; omega
    · exact h'
  · exact pow_le
theorem pow_30 {k : Nat} (h : k ≤ 30) : (1 : Int) ≤ 2 ^ k ∧ (2 : Int) ^ k ≤ 1073741824 := by
  have h1 := pow_le h
  have h2 := pow_le (Nat.zero_le k)
  have h3 : (2 : Int) ^ 30 = 1073741824 := by decide
  have h4 : (2 : Int) ^ 0 = 1 := by decide
  omega
theorem zeros_dvd (n : Int) {k : Nat} (hk : k ≤ 64) : (k : Int) ≤ zerosI n ↔ (2 : Int) ^ k ∣ n := by
  have h64 : (2 : Int) ^ 64 = 18446744073709551616 := by decide
  have hd : (2 : Int) ^ k ∣ 18446744073709551616 := by rw [← h64]; exact pow_dvd hk
  have e : ((2 : Int) ^ k ∣ n) ↔ (2 : Int) ^ k ∣ n % 18446744073709551616 := by
    have h := Int.emod_add_mul_ediv n 18446744073709551616
    have h2 : (2 : Int) ^ k ∣ 18446744073709551616 * (n / 18446744073709551616) := Int.dvd_trans hd (Int.dvd_mul_right _ _)
    constructor
    · intro h3; have h4 := Int.dvd_sub h3 h2; rwa [show n - 18446744073709551616 * (n / 18446744073709551616) = n % 18446744073709551616 by omega] at h4
    · intro h3; have h4 := Int.dvd_add h3 h2; rwa [h] at h4
  rw [e]
  unfold zerosI
  generalize hx : (n % 18446744073709551616).toNat = x
  have hxi : n % 18446744073709551616 = (x : Int) := by omega
  have hxl : x < 2 ^ 64 := by have h : (2 : Nat) ^ 64 = 18446744073709551616 := by decide
                              rw [h]; omega
  rw [hxi]
  unfold Lib.ctz
  by_cases h0 : x = 0
  · subst h0
    rw [if_pos rfl]
    exact ⟨fun _ => Int.dvd_zero _, fun _ => by omega⟩
  · rw [if_neg h0]
    obtain ⟨m, hm, hc⟩ := Lib.ctzFrom_spec 64 x (by omega) hxl
    generalize Lib.ctzFrom 64 x = c at *
    rw [pow_cast, Int.natCast_dvd_natCast]
    constructor
    · intro h
      rw [hm]
      have : 2 ^ k ∣ 2 ^ c := Nat.pow_dvd_pow 2 (by omega)
      exact Nat.dvd_trans this (Nat.dvd_mul_right _ _)
    · intro h
      rcases Nat.lt_or_ge c k with h' | h'
      · have h1 : 2 ^ (c + 1) ∣ 2 ^ c * (2 * m + 1) := by rw [← hm]; exact Nat.dvd_trans (Nat.pow_dvd_pow 2 h') h
        rw [Nat.pow_succ] at h1
        have h2 := Nat.dvd_of_mul_dvd_mul_left (Nat.two_pow_pos c) h1
        omega
      · omega
theorem zeros_pow {k : Nat} (hk : k ≤ 62) : zerosI (2 ^ k) = k := by
  have h1 := (zeros_dvd (2 ^ k) (show k ≤ 64 by omega)).2 (Int.dvd_refl _)
  have h2 : ¬ ((k + 1 : Nat) : Int) ≤ zerosI (2 ^ k) := by
    rw [zeros_dvd _ (by omega)]
    intro h
    have h3 := Int.le_of_dvd (pow_pos' k) h
    have h4 := (pow_le_iff (a := k + 1) (b := k)).1 h3
    omega
  omega
theorem zeros_0 : zerosI 0 = 64 := by decide
theorem zeros_bd (n : Int) : 0 ≤ zerosI n := by unfold zerosI; omega

/-- A word. -/
abbrev isW (n : Int) : Prop := -2147483648 ≤ n ∧ n ≤ 2147483647
theorem isW_w (n : Int) : isW (wrap32 n) := w32_bd n
/-- The words that are r modulo 2^b: b at most 30, or 32 for one word. -/
def low (b : Nat) (r : Int) : Int × Int := if b = 32 then (0, wrap32 r) else (2 ^ b, r % 2 ^ b)
def Bt (b : Nat) : Prop := b ≤ 30 ∨ b = 32
theorem low_32 (r : Int) : low 32 r = (0, wrap32 r) := rfl
theorem low_b {b : Nat} (h : b ≤ 30) (r : Int) : low b r = (2 ^ b, r % 2 ^ b) := if_neg (by omega)
/-- The second part of a residue: r modulo 2^b. -/
theorem low_r {b : Nat} (hb : Bt b) (r : Int) : (2 : Int) ^ b ∣ (low b r).2 - r := by
  rcases hb with h | rfl
  · rw [low_b h]
    have := Int.emod_add_mul_ediv r (2 ^ b)
    exact ⟨-(r / 2 ^ b), by rw [Int.mul_neg]; simp only; omega⟩
  · rw [low_32]
    show (2 : Int) ^ 32 ∣ wrap32 r - r
    have h : (2 : Int) ^ 32 = 4294967296 := by decide
    rw [h]
    unfold wrap32
    omega
theorem low_w {b : Nat} (hb : Bt b) (r : Int) : isW (low b r).2 := by
  rcases hb with h | rfl
  · rw [low_b h]
    have := pow_30 h
    have h1 := Int.emod_nonneg r (show (2 : Int) ^ b ≠ 0 by omega)
    have h2 := Int.emod_lt_of_pos r (show (0 : Int) < 2 ^ b by omega)
    exact ⟨by simp only; omega, by simp only; omega⟩
  · exact isW_w r
theorem dvd_small {x : Int} (h : (2 : Int) ^ 32 ∣ x) (h1 : -4294967296 < x) (h2 : x < 4294967296) : x = 0 := by
  have e : (2 : Int) ^ 32 = 4294967296 := by decide
  rw [e] at h; omega
theorem w32_iff (r s : Int) : wrap32 r = wrap32 s ↔ (2 : Int) ^ 32 ∣ r - s := by
  have e : (2 : Int) ^ 32 = 4294967296 := by decide
  rw [e]; unfold wrap32; omega
theorem emod_iff (b : Nat) (r s : Int) : r % 2 ^ b = s % 2 ^ b ↔ (2 : Int) ^ b ∣ r - s := Int.emod_eq_emod_iff_emod_sub_eq_zero.trans Int.dvd_iff_emod_eq_zero.symm
theorem low_eq {b : Nat} (hb : Bt b) (r s : Int) : low b r = low b s ↔ (2 : Int) ^ b ∣ r - s := by
  rcases hb with h | rfl
  · rw [low_b h, low_b h, Prod.mk.injEq, ← emod_iff]; simp
  · rw [low_32, low_32, Prod.mk.injEq, ← w32_iff]; simp
theorem low_ne {b c : Nat} (hb : Bt b) (hc : Bt c) (h : b ≠ c) (r s : Int) : low b r ≠ low c s := by
  intro e
  have e1 := congrArg Prod.fst e
  rcases hb with hb | rfl
  · rcases hc with hc | rfl
    · rw [low_b hb, low_b hc] at e1
      simp only at e1
      have h1 := pow_le_iff.1 (Int.le_of_eq e1)
      have h2 := pow_le_iff.1 (Int.le_of_eq e1.symm)
      omega
    · rw [low_b hb, low_32] at e1
      have := pow_30 hb
      simp only at e1; omega
  · rcases hc with hc | rfl
    · rw [low_b hc, low_32] at e1
      have := pow_30 hc
      simp only at e1; omega
    · exact h rfl
theorem low_self {b : Nat} (hb : Bt b) (r : Int) : low b (low b r).2 = low b r := (low_eq hb _ _).2 (low_r hb r)
theorem low_non {b : Nat} (hb : Bt b) (r : Int) : low b r ≠ (-1, 0) := by
  intro e
  have e1 := congrArg Prod.fst e
  rcases hb with hb | rfl
  · rw [low_b hb] at e1; have := pow_30 hb; simp only at e1; omega
  · rw [low_32] at e1; simp only at e1; omega

/-- None, or bits and a number. -/
abbrev El := Option (Nat × Int)
def val : El → Int × Int
  | none => (-1, 0)
  | some (b, r) => low b r
def okE : El → Prop
  | none => True
  | some (b, _) => Bt b
/-- The order. -/
def leE : El → El → Bool
  | none, _ => true
  | some _, none => false
  | some (b, r), some (c, s) => decide (c ≤ b ∧ (2 : Int) ^ c ∣ r - s)
def hasE : El → Int → Bool
  | none, _ => false
  | some (b, r), n => decide (isW n ∧ (2 : Int) ^ b ∣ n - r)
theorem val_b {b : Nat} (h : b ≤ 30) (r : Int) : val (some (b, r)) = (2 ^ b, r % 2 ^ b) := low_b h r
theorem val_32 (r : Int) : val (some (32, r)) = (0, wrap32 r) := rfl
theorem bd_b {b : Nat} (h : b ≤ 30) (r : Int) : 0 ≤ r % 2 ^ b ∧ r % 2 ^ b < 2 ^ b ∧ (2 : Int) ^ b ∣ r % 2 ^ b - r := by
  have p := pow_30 h
  have e := low_r (Or.inl h) r
  rw [low_b h] at e
  exact ⟨Int.emod_nonneg r (by omega), Int.emod_lt_of_pos r (by omega), e⟩
end Go.Proofs.YtaphfmbloappkaaDoor
