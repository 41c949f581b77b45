/-
  What the reference's functions compute: at any residue a valid residue first, then the plain residues' own functions. No condition on the residues.
-/
import Derived.Test.YtaphfmbloappkaaDoorEvalB
import Derived.Test.YtaphfmbloappkaaDoorPAllx17
namespace Go.Proofs.YtaphfmbloappkaaDoorG
open Go.RowKit Go.Proofs.YtaphfmbloappkaaDoor Go.Proofs.YtaphfmbloappkaaDoorW.PrintWords Go.Proofs.YtaphfmbloappkaaDoorW.PrintMore PAll
set_option linter.unusedVariables false

theorem rwrap (n : Int) : timeboundref01_Wrap.f n = some (wrap32 n) := by
  unfold timeboundref01_Wrap.f
  congr 1
  rw [IntKind.wrap_u64]
  exact w_mod2 _
theorem rof (n : Int) : timeboundref08_Of.f n = some (low 32 n) := by
  unfold timeboundref08_Of.f
  rw [rwrap]
  rfl
theorem u64_nat {c : Nat} (h : c ≤ 62) : IntKind.u64.wrap (c : Int) = (c : Int) := by rw [IntKind.wrap_u64]; omega
theorem least {M : Int} : ∀ n : Nat, M ≤ 2 ^ n → ∃ c : Nat, c ≤ n ∧ M ≤ 2 ^ c ∧ ∀ j : Nat, j < c → (2 : Int) ^ j < M
  | 0, h => ⟨0, Nat.le_refl _, h, fun j hj => absurd hj (Nat.not_lt_zero j)⟩
  | n + 1, h => by
    by_cases g : M ≤ 2 ^ n
    · obtain ⟨c, h1, h2, h3⟩ := least n g
      exact ⟨c, by omega, h2, h3⟩
    · refine ⟨n + 1, Nat.le_refl _, h, fun j hj => ?_⟩
      have := pow_le (show j ≤ n by omega)
      omega
theorem bits_l {M : Int} (R : Int) {c : Nat} (hc : c ≤ 30) (h1 : M ≤ 2 ^ c) (h0 : ∀ j : Nat, j < c → (2 : Int) ^ j < M) : ∀ d i k : Nat, i + d = c → timeboundref08_Bits.l0 (d + 1 + k) (i : Int) M R = some (c : Int)
  | 0, i, k, e => by
    obtain rfl : i = c := by omega
    rw [show 0 + 1 + k = k + 1 by omega]
    simp only [timeboundref08_Bits.l0]
    rw [u64_nat (by omega), if_pos (by omega), shl_1 hc, if_neg (by omega)]
  | d + 1, i, k, e => by
    rw [show d + 1 + 1 + k = (d + 1 + k) + 1 by omega]
    simp only [timeboundref08_Bits.l0]
    rw [u64_nat (by omega), if_pos (by omega), shl_1 (by omega), if_pos (h0 i (by omega)), w64_small (by omega) (by omega), show (i : Int) + 1 = ((i + 1 : Nat) : Int) by omega]
    exact bits_l R hc h1 h0 d (i + 1) k (by omega)
theorem rbits_of {M : Int} (R : Int) (m1 : 1 ≤ M) {c : Nat} (hc : c ≤ 30) (h1 : M ≤ 2 ^ c) (h0 : ∀ j : Nat, j < c → (2 : Int) ^ j < M) (k : Nat) : timeboundref08_Bits.f (k + 31) M R = some (c : Int) := by
  unfold timeboundref08_Bits.f
  rw [if_neg (by omega), show k + 31 = c + 1 + (k + 30 - c) by omega]
  exact bits_l R hc h1 h0 c 0 _ (by omega)
theorem rbits_val {b : Nat} (hb : Bt b) (r : Int) (k : Nat) : timeboundref08_Bits.f (k + 31) (low b r).1 (low b r).2 = some (b : Int) := by
  rcases hb with h | rfl
  · have p := pow_30 h
    rw [low_b h]
    refine rbits_of _ p.1 h (Int.le_refl _) (fun j hj => ?_) k
    have := pow_le (show j + 1 ≤ b by omega)
    rw [Int.pow_succ] at this
    have := pow_pos' j
    omega
  · rfl
/-- Two numbers with the same top bit share a bit. -/
theorem and_top {j : Nat} (hj : j ≤ 60) {x y : Nat} (hx : 2 ^ j ≤ x) (hx' : x < 2 ^ (j + 1)) (hy : 2 ^ j ≤ y) (hy' : y < 2 ^ (j + 1)) : Go.bits .and .i64 (x : Int) (y : Int) ≠ 0 := by
  have q : 2 ^ (j + 1) ≤ 2 ^ 61 := Nat.pow_le_pow_right (by decide) (by omega)
  have q1 : (2 : Nat) ^ 61 = 2305843009213693952 := by decide
  have q0 : (2 : Nat) ^ (j + 1) = 2 ^ j * 2 := Nat.pow_succ ..
  have e : Go.bits .and .i64 (x : Int) (y : Int) = ((x &&& y : Nat) : Int) := by
    show IntKind.i64.wrap ((BitVec.ofInt 64 (x : Int) &&& BitVec.ofInt 64 (y : Int)).toNat : Int) = _
    rw [BitVec.ofInt_natCast, BitVec.ofInt_natCast, BitVec.toNat_and, BitVec.toNat_ofNat, BitVec.toNat_ofNat, Nat.mod_eq_of_lt (by omega), Nat.mod_eq_of_lt (by omega), IntKind.wrap_i64]
    have : x &&& y ≤ x := Nat.and_le_left
    omega
  rw [e]
  intro z
  have z' : x &&& y = 0 := by omega
  have t : ∀ v : Nat, 2 ^ j ≤ v → v < 2 ^ (j + 1) → v.testBit j = true := by
    intro v h h'
    rw [Nat.testBit_eq_decide_div_mod_eq, decide_eq_true_eq]
    have : v / 2 ^ j = 1 := Nat.div_eq_of_lt_le (by omega) (by omega)
    rw [this]
  have a := congrArg (fun v => Nat.testBit v j) z'
  simp only [Nat.testBit_and, t x hx hx', t y hy hy', Nat.zero_testBit] at a
  exact absurd a (by decide)
theorem and_less {M : Int} (m1 : 1 ≤ M) {c : Nat} (hc : c ≤ 30) (h1 : M ≤ 2 ^ c) (h0 : ∀ j : Nat, j < c → (2 : Int) ^ j < M) : Go.bits .and .i64 M (wrap64 (M - 1)) = 0 ↔ (2 : Int) ^ c = M := by
  have p := pow_30 hc
  constructor
  · intro z
    rcases Nat.eq_zero_or_pos c with h | h
    · subst h
      have : (2 : Int) ^ 0 = 1 := rfl
      omega
    · refine Decidable.byContradiction fun ne => ?_
      obtain ⟨j, rfl⟩ : ∃ j, c = j + 1 := ⟨c - 1, by omega⟩
      have g := h0 j (by omega)
      rw [w64_small (by omega) (by omega)] at z
      have c1 : ((2 : Int) ^ j) = ((2 ^ j : Nat) : Int) := pow_cast j
      have c2 : ((2 : Int) ^ (j + 1)) = ((2 ^ (j + 1) : Nat) : Int) := pow_cast (j + 1)
      have a := and_top (j := j) (by omega) (x := M.toNat) (y := (M - 1).toNat) (by omega) (by omega) (by omega) (by omega)
      rw [Int.toNat_of_nonneg (by omega), Int.toNat_of_nonneg (by omega)] at a
      exact a z
  · intro e
    rw [← e, andm hc]
    exact Int.emod_self
/-- The reference's Valid is the program's. -/
theorem rvalid (a b : Int) (k : Nat) : timeboundref08_Valid.f (k + 31) a b = congruence_Valid.f a b := by
  unfold timeboundref08_Valid.f congruence_Valid.f congruence_None.f
  by_cases c1 : a = -1
  · subst c1; rfl
  rw [if_neg c1, if_neg c1]
  by_cases c2 : a = 0
  · subst c2
    rw [if_pos rfl, if_pos rfl, rwrap, is_val]
    simp only [Option.bind_some]
    congr 1
    rw [Bool.eq_iff_iff, beq_iff_eq, decide_eq_true_eq]
    exact ⟨fun z => by rw [← z]; exact isW_w b, fun z => w32_of b z.1 z.2⟩
  rw [if_neg c2, if_neg c2]
  by_cases c3 : a ≥ 1
  · rw [if_pos c3, if_pos c3]
    by_cases c4 : a ≤ 1073741824
    · rw [if_pos c4, if_pos c4]
      obtain ⟨c, hc, h1, h0⟩ := least (M := a) 30 (by have : (2 : Int) ^ 30 = 1073741824 := by decide
                                                      omega)
      rw [rbits_of b c3 hc h1 h0 k]
      simp only [Option.bind_some]
      rw [u64_nat (by omega), if_pos (by omega), shl_1 hc]
      by_cases e : (2 : Int) ^ c = a
      · rw [if_pos e, if_pos ((and_less c3 hc h1 h0).2 e)]
      · rw [if_neg e, if_neg (fun z => e ((and_less c3 hc h1 h0).1 z))]
    · rw [if_neg c4, if_neg c4]
  · rw [if_neg c3, if_neg c3]
theorem rform (a b : Int) (k : Nat) : timeboundref08_Form.f (k + 31) a b = congruence_Fix.f a b := by
  unfold timeboundref08_Form.f congruence_Fix.f
  rw [rvalid]
  rfl
/-- Fix gives a valid residue. -/
theorem fix_any (a b : Int) : ∃ x : El, okE x ∧ congruence_Fix.f a b = some (val x) := by
  have all : (1, 0) = val (some (0, 0)) := by decide
  unfold congruence_Fix.f
  obtain ⟨v, hv⟩ : ∃ v, congruence_Valid.f a b = some v := by
    unfold congruence_Valid.f congruence_None.f
    rw [is_val]
    split
    · exact ⟨_, rfl⟩
    split
    · exact ⟨_, rfl⟩
    split <;> (try exact ⟨_, rfl⟩)
    split <;> (try exact ⟨_, rfl⟩)
    split <;> (try exact ⟨_, rfl⟩)
    split <;> exact ⟨_, rfl⟩
  rw [hv]
  simp only [Option.bind_some]
  cases v
  · rw [if_neg (by decide)]
    exact ⟨some (0, 0), Or.inl (by omega), congrArg some all⟩
  · rw [if_pos rfl]
    unfold congruence_Valid.f congruence_None.f at hv
    by_cases c1 : a = -1
    · rw [if_pos c1] at hv
      simp only [Option.bind_some, Option.some.injEq] at hv
      rw [beq_pair] at hv
      exact ⟨none, trivial, congrArg some hv⟩
    rw [if_neg c1] at hv
    by_cases c2 : a = 0
    · subst c2
      rw [if_pos rfl, is_val] at hv
      simp only [Option.bind_some, Option.some.injEq, decide_eq_true_eq] at hv
      exact ⟨some (32, b), Or.inr rfl, by rw [val_32, w32_of b hv.1 hv.2]⟩
    rw [if_neg c2] at hv
    by_cases c3 : a ≥ 1
    · rw [if_pos c3] at hv
      by_cases c4 : a ≤ 1073741824
      · rw [if_pos c4] at hv
        obtain ⟨c, hc, h1, h0⟩ := least (M := a) 30 (by have : (2 : Int) ^ 30 = 1073741824 := by decide
                                                        omega)
        by_cases e : (2 : Int) ^ c = a
        · rw [if_pos ((and_less c3 hc h1 h0).2 e)] at hv
          by_cases c5 : b ≥ 0
          · rw [if_pos c5] at hv
            simp only [Option.some.injEq, decide_eq_true_eq] at hv
            exact ⟨some (c, b), Or.inl hc, by rw [val_b hc, e, Int.emod_eq_of_lt c5 hv]⟩
          · rw [if_neg c5] at hv; cases hv
        · rw [if_neg (fun z => e ((and_less c3 hc h1 h0).1 z))] at hv; cases hv
      · rw [if_neg c4] at hv; cases hv
    · rw [if_neg c3] at hv; cases hv
theorem rform_val {x : El} (hx : okE x) (k : Nat) : timeboundref08_Form.f (k + 31) (val x).1 (val x).2 = some (val x) := (rform _ _ k).trans (fix_val hx)
/-- Has. -/
theorem rhas_val {x : El} (hx : okE x) (n : Int) (k : Nat) : timeboundref08_Has.f (k + 31) (val x).1 (val x).2 n = some (hasE x n) := by
  rw [← has_val hx n (k + 30)]
  unfold timeboundref08_Has.f congruence_Has.f timeboundref08_None.f congruence_None.f
  rw [rform_val hx, fix_val hx, rwrap, is_val]
  simp only [Option.bind_some]
  have j : ∀ (v : Bool) (m r : Int), timeboundref08_Has.j0 (k + 30 + 1) n v m r = congruence_Has.j0 (k + 30 + 1) n v m r := by
    intro v m r
    simp only [timeboundref08_Has.j0, congruence_Has.j0]
  have e : (wrap32 n != n) = !decide (isW n) := by
    rw [bne, Bool.eq_iff_iff, Bool.not_eq_true', Bool.not_eq_true', beq_eq_false_iff_ne, decide_eq_false_iff_not]
    exact ⟨fun z w => z (w32_of n w.1 w.2), fun z w => z (by rw [← w]; exact isW_w n)⟩
  rw [e]
  cases ((val x).1 == -1 && (val x).2 == 0) <;> cases decide (isW n)
  · rw [if_neg (by decide), if_neg (by decide)]; exact j ..
  · rw [if_neg (by decide), if_pos rfl]; exact j ..
  · rw [if_pos rfl, if_neg (by decide)]; exact j ..
  · rw [if_pos rfl, if_pos rfl]; exact j ..
end Go.Proofs.YtaphfmbloappkaaDoorG
