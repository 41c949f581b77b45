/-
  Narrower intervals have narrower results, in plain Lean: for each operator. Conditions: intervals of words, one within the other.
-/
import Derived.Test.YtdooadomkifbbaaFixed
namespace Go.Proofs.Ytdooadomkifbbaa
open Go.RowKit
set_option linter.unusedSectionVars false
set_option linter.unusedVariables false

/-- One interval lies within another, end for end. -/
def Sub (A B : Int × Int) : Prop := B.1 ≤ A.1 ∧ A.2 ≤ B.2
theorem leq_sub {A B : Int × Int} (h : Sub A B) : leq0 A.1 A.2 B.1 B.2 = true := by
  unfold leq0; obtain ⟨h1, h2⟩ := h
  refine decide_eq_true ?_
  by_cases c : A.2 < A.1
  · exact Or.inl c
  · exact Or.inr ⟨by omega, h1, h2⟩
theorem leq_all {A : Int × Int} (h : FixP A) : leq0 A.1 A.2 allP.1 allP.2 = true := by
  unfold leq0
  refine decide_eq_true ?_
  rcases h with ⟨h1, h2⟩ | ⟨h1, h2, h3⟩
  · exact Or.inl (by omega)
  · exact Or.inr ⟨by decide, h1, h3⟩
theorem around_mono {lo hi lo' hi' : Int} (h0 : lo ≤ lo') (h1 : hi' ≤ hi) (h : lo' ≤ hi') : aroundF lo hi = allP ∨ Sub (aroundF lo' hi') (aroundF lo hi) := by
  unfold aroundF
  by_cases c : (isB lo && isB hi) = true
  · right
    rw [if_pos c]
    simp only [isB, Bool.and_eq_true, decide_eq_true_eq] at c
    have c' : (isB lo' && isB hi') = true := by simp only [isB, Bool.and_eq_true, decide_eq_true_eq]; omega
    rw [if_pos c']
    exact ⟨h0, h1⟩
  · left; rw [if_neg c]; rfl
theorem le_mn4 {m a b c d : Int} (h1 : m ≤ a) (h2 : m ≤ b) (h3 : m ≤ c) (h4 : m ≤ d) : m ≤ mn4 a b c d := by unfold mn4 mnI; split <;> split <;> split <;> omega
theorem mx4_le' {m a b c d : Int} (h1 : a ≤ m) (h2 : b ≤ m) (h3 : c ≤ m) (h4 : d ≤ m) : mx4 a b c d ≤ m := by unfold mx4 mxI; split <;> split <;> split <;> omega
theorem mn_mx4 (a b c d : Int) : mn4 a b c d ≤ mx4 a b c d := by have h1 := mn4_le a b c d; have h2 := mx4_le a b c d; omega
theorem corners_mono {a b c d a' b' c' d' : Int} (ha : mn4 a b c d ≤ a' ∧ a' ≤ mx4 a b c d) (hb : mn4 a b c d ≤ b' ∧ b' ≤ mx4 a b c d) (hc : mn4 a b c d ≤ c' ∧ c' ≤ mx4 a b c d) (hd : mn4 a b c d ≤ d' ∧ d' ≤ mx4 a b c d) :
    aroundF (mn4 a b c d) (mx4 a b c d) = allP ∨ Sub (aroundF (mn4 a' b' c' d') (mx4 a' b' c' d')) (aroundF (mn4 a b c d) (mx4 a b c d)) :=
  around_mono (le_mn4 ha.1 hb.1 hc.1 hd.1) (mx4_le' ha.2 hb.2 hc.2 hd.2) (mn_mx4 _ _ _ _)
theorem mask_mono {n n' : Int} (h : n' ≤ n) (m : Int) (hm : 0 ≤ m) : maskG m n' ≤ maskG m n := by
  fun_induction maskG m n with
  | case1 m h0 ih =>
    by_cases c : m < n'
    · rw [maskG_step h0.1 c]; exact ih (by omega)
    · rw [maskG_end (by omega : n' ≤ m)]
      have := ih (by omega)
      have g : 2 * m + 1 ≤ maskG (2 * m + 1) n' := by
        rw [maskG_end (by omega)]; exact Int.le_refl _
      omega
  | case2 m h0 =>
    rw [maskG_end (by omega : n' ≤ m)]; exact Int.le_refl _
section
variable {p q r s p' q' r' s' : Int} (b0 : -2147483648 ≤ p) (l0 : p ≤ q) (b1 : q ≤ 2147483647) (b2 : -2147483648 ≤ r) (l1 : r ≤ s) (b3 : s ≤ 2147483647) (h0 : p ≤ p') (h1 : p' ≤ q') (h2 : q' ≤ q) (h3 : r ≤ r') (h4 : r' ≤ s') (h5 : s' ≤ s)
include b0 l0 b1 b2 l1 b3 h0 h1 h2 h3 h4 h5
theorem mono1 : do1F 1 p q r s = allP ∨ Sub (do1F 1 p' q' r' s') (do1F 1 p q r s) := by
  show aroundF (mnI (p + r) (q + s)) (mxI (p + r) (q + s)) = allP ∨ Sub (aroundF (mnI (p' + r') (q' + s')) (mxI (p' + r') (q' + s'))) (aroundF (mnI (p + r) (q + s)) (mxI (p + r) (q + s)))
  apply around_mono <;> (simp only [mnI, mxI]; split <;> (try split) <;> omega)
theorem mono2 : do1F 2 p q r s = allP ∨ Sub (do1F 2 p' q' r' s') (do1F 2 p q r s) := by
  show aroundF (mnI (p - s) (q - r)) (mxI (p - s) (q - r)) = allP ∨ Sub (aroundF (mnI (p' - s') (q' - r')) (mxI (p' - s') (q' - r'))) (aroundF (mnI (p - s) (q - r)) (mxI (p - s) (q - r)))
  apply around_mono <;> (simp only [mnI, mxI]; split <;> (try split) <;> omega)
theorem mono3 : do1F 3 p q r s = allP ∨ Sub (do1F 3 p' q' r' s') (do1F 3 p q r s) :=
  corners_mono (mul_corners (by omega) (by omega) (by omega) (by omega)) (mul_corners (by omega) (by omega) (by omega) (by omega)) (mul_corners (by omega) (by omega) (by omega) (by omega)) (mul_corners (by omega) (by omega) (by omega) (by omega))
theorem mono4 : do1F 4 p q r s = allP ∨ Sub (do1F 4 p' q' r' s') (do1F 4 p q r s) := by
  show (if 1 ≤ r then quoF p q r s else allP) = allP ∨ Sub (if 1 ≤ r' then quoF p' q' r' s' else allP) (if 1 ≤ r then quoF p q r s else allP)
  by_cases c : 1 ≤ r
  · rw [if_pos c, if_pos (by omega)]
    exact corners_mono (tdiv_corners c (by omega) (by omega) (by omega) (by omega)) (tdiv_corners c (by omega) (by omega) (by omega) (by omega)) (tdiv_corners c (by omega) (by omega) (by omega) (by omega)) (tdiv_corners c (by omega) (by omega) (by omega) (by omega))
  · left; exact if_neg c
theorem mono5 : do1F 5 p q r s = allP ∨ Sub (do1F 5 p' q' r' s') (do1F 5 p q r s) := by
  show (if 1 ≤ r then remF p q s else allP) = allP ∨ Sub (if 1 ≤ r' then remF p' q' s' else allP) (if 1 ≤ r then remF p q s else allP)
  by_cases c : 1 ≤ r
  · right
    rw [if_pos c, if_pos (by omega)]
    unfold remF Sub mxI mnI
    refine ⟨?_, ?_⟩ <;> simp only <;> split <;> split <;> (try split) <;> (try split) <;> omega
  · left; exact if_neg c
theorem mono_bit (op : Int) : bitF op p q r s = allP ∨ Sub (bitF op p' q' r' s') (bitF op p q r s) := by
  unfold bitF
  by_cases c : 0 ≤ p ∧ 0 ≤ r
  · right
    rw [if_pos c, if_pos (by omega)]
    by_cases c6 : op = 6
    · rw [if_pos c6, if_pos c6]; exact ⟨by simp only; omega, by unfold mnI; simp only; split <;> split <;> omega⟩
    · rw [if_neg c6, if_neg c6]
      have g := mask_mono (n := mxI q s) (n' := mxI q' s') (by unfold mxI; split <;> split <;> omega) 0 (by omega)
      by_cases c7 : op = 7
      · rw [if_pos c7, if_pos c7]; exact ⟨by unfold mxI; simp only; split <;> split <;> omega, g⟩
      · rw [if_neg c7, if_neg c7]; exact ⟨by simp only; omega, g⟩
  · rw [if_neg c]
    by_cases c1 : 0 ≤ p ∧ op = 6
    · right
      rw [if_pos c1]
      by_cases d : 0 ≤ p' ∧ 0 ≤ r'
      · rw [if_pos d, if_pos c1.2]; exact ⟨by simp only; omega, by unfold mnI; simp only; split <;> omega⟩
      · rw [if_neg d, if_pos ⟨by omega, c1.2⟩]; exact ⟨by simp only; omega, by simp only; omega⟩
    · rw [if_neg c1]
      by_cases c2 : 0 ≤ r ∧ op = 6
      · right
        rw [if_pos c2]
        by_cases d : 0 ≤ p' ∧ 0 ≤ r'
        · rw [if_pos d, if_pos c2.2]; exact ⟨by simp only; omega, by unfold mnI; simp only; split <;> omega⟩
        · rw [if_neg d, if_neg (by omega), if_pos ⟨by omega, c2.2⟩]; exact ⟨by simp only; omega, by simp only; omega⟩
      · left; rw [if_neg c2]; rfl
theorem mono9 : do1F 9 p q r s = allP ∨ Sub (do1F 9 p' q' r' s') (do1F 9 p q r s) := by
  rw [do1F_9, do1F_9]
  by_cases c : r = s ∧ 0 ≤ r ∧ r ≤ 31 ∧ 0 ≤ p ∧ q * 2 ^ r.toNat ≤ 2147483647
  · right
    obtain ⟨c1, c2, c3, c4, c5⟩ := c
    have e : r' = r := by omega
    have e' : s' = r := by omega
    subst e
    have pw := pow_bd (k := r'.toNat) (by omega)
    have m1 : p * 2 ^ r'.toNat ≤ p' * 2 ^ r'.toNat := Int.mul_le_mul_of_nonneg_right h0 (by omega)
    have m2 : q' * 2 ^ r'.toNat ≤ q * 2 ^ r'.toNat := Int.mul_le_mul_of_nonneg_right h2 (by omega)
    rw [if_pos (show r' = s' ∧ 0 ≤ r' ∧ r' ≤ 31 ∧ 0 ≤ p' ∧ q' * 2 ^ r'.toNat ≤ 2147483647 from ⟨by omega, c2, c3, by omega, by omega⟩), if_pos ⟨c1, c2, c3, c4, c5⟩]
    exact ⟨m1, m2⟩
  · left; rw [if_neg c]
theorem div_between {x : Int} (k : Nat) (hk : k ≤ 31) : mnI x 0 ≤ x / 2 ^ k ∧ x / 2 ^ k ≤ mxI x 0 := by
  have pw := pow_bd hk
  have d := Int.ediv_mul_le x (show (2 : Int) ^ k ≠ 0 by omega)
  by_cases hx : 0 ≤ x
  · have a := Int.ediv_nonneg hx (show (0 : Int) ≤ 2 ^ k by omega)
    have b := Int.ediv_le_self (2 ^ k) hx
    unfold mnI mxI; constructor <;> split <;> omega
  · have a : x / 2 ^ k < 0 := Int.ediv_neg_of_neg_of_pos (by omega) (by omega)
    have b : x ≤ x / 2 ^ k := by
      refine (Int.le_ediv_iff_mul_le (by omega)).2 ?_
      have : x * 2 ^ k ≤ x * 1 := Int.mul_le_mul_of_nonpos_left (by omega) pw.1
      omega
    unfold mnI mxI; constructor <;> split <;> omega
theorem mono10 : do1F 10 p q r s = allP ∨ Sub (do1F 10 p' q' r' s') (do1F 10 p q r s) := by
  rw [do1F_10, do1F_10]
  by_cases c : 0 ≤ r ∧ s ≤ 31
  · rw [if_pos c, if_pos (by omega)]
    exact corners_mono (shr_corners c.2 (by omega) (by omega) (by omega) (by omega)) (shr_corners c.2 (by omega) (by omega) (by omega) (by omega)) (shr_corners c.2 (by omega) (by omega) (by omega) (by omega)) (shr_corners c.2 (by omega) (by omega) (by omega) (by omega))
  · right
    rw [if_neg c]
    by_cases d : 0 ≤ r' ∧ s' ≤ 31
    · rw [if_pos d]
      have w1 := div_between b0 l0 b1 b2 l1 b3 h0 h1 h2 h3 h4 h5 (x := p') r'.toNat (by omega)
      have w2 := div_between b0 l0 b1 b2 l1 b3 h0 h1 h2 h3 h4 h5 (x := p') s'.toNat (by omega)
      have w3 := div_between b0 l0 b1 b2 l1 b3 h0 h1 h2 h3 h4 h5 (x := q') r'.toNat (by omega)
      have w4 := div_between b0 l0 b1 b2 l1 b3 h0 h1 h2 h3 h4 h5 (x := q') s'.toNat (by omega)
      have n1 : mnI p 0 ≤ mnI p' 0 ∧ mnI p 0 ≤ mnI q' 0 ∧ mxI p' 0 ≤ mxI q 0 ∧ mxI q' 0 ≤ mxI q 0 ∧ -2147483648 ≤ mnI p 0 ∧ mxI q 0 ≤ 2147483647 := by unfold mnI mxI; refine ⟨?_, ?_, ?_, ?_, ?_, ?_⟩ <;> split <;> (try split) <;> omega
      have a1 := le_mn4 (m := mnI p 0) (a := p' / 2 ^ r'.toNat) (b := p' / 2 ^ s'.toNat) (c := q' / 2 ^ r'.toNat) (d := q' / 2 ^ s'.toNat) (by omega) (by omega) (by omega) (by omega)
      have a2 := mx4_le' (m := mxI q 0) (a := p' / 2 ^ r'.toNat) (b := p' / 2 ^ s'.toNat) (c := q' / 2 ^ r'.toNat) (d := q' / 2 ^ s'.toNat) (by omega) (by omega) (by omega) (by omega)
      have a3 := mn_mx4 (p' / 2 ^ r'.toNat) (p' / 2 ^ s'.toNat) (q' / 2 ^ r'.toNat) (q' / 2 ^ s'.toNat)
      unfold aroundF
      rw [if_pos (by simp only [isB, Bool.and_eq_true, decide_eq_true_eq]; omega)]
      exact ⟨a1, a2⟩
    · rw [if_neg d]
      unfold Sub mnI mxI
      constructor <;> simp only <;> split <;> split <;> omega
theorem truth_mono (x y x' y' : Bool) (hx : x = true → x' = true) (hy : y = true → x = false → x' = false ∧ y' = true) : Sub (truthF x' y') (truthF x y) := by
  cases x <;> cases y <;> cases x' <;> cases y' <;> first | exact ⟨by decide, by decide⟩ | exact absurd (hx rfl) (by decide) | exact absurd (hy rfl rfl).1 (by decide) | exact absurd (hy rfl rfl).2 (by decide)
theorem mono_cmp (op : Int) : Sub (cmpF op p' q' r' s') (cmpF op p q r s) := by
  unfold cmpF
  by_cases c11 : op = 11
  · rw [if_pos c11, if_pos c11]
    apply truth_mono b0 l0 b1 b2 l1 b3 h0 h1 h2 h3 h4 h5
    · intro h; have := of_decide_eq_true h; exact decide_eq_true (by omega)
    · intro h _; have := of_decide_eq_true h; exact ⟨decide_eq_false (by omega), decide_eq_true (by omega)⟩
  rw [if_neg c11, if_neg c11]
  by_cases c12 : op = 12
  · rw [if_pos c12, if_pos c12]
    apply truth_mono b0 l0 b1 b2 l1 b3 h0 h1 h2 h3 h4 h5
    · intro h; have := of_decide_eq_true h; exact decide_eq_true (by omega)
    · intro h _; have := of_decide_eq_true h; exact ⟨decide_eq_false (by omega), decide_eq_true (by omega)⟩
  rw [if_neg c12, if_neg c12]
  by_cases c13 : op = 13
  · rw [if_pos c13, if_pos c13]
    apply truth_mono b0 l0 b1 b2 l1 b3 h0 h1 h2 h3 h4 h5
    · intro h; have := of_decide_eq_true h; exact decide_eq_true (by omega)
    · intro h _; have := of_decide_eq_true h; exact ⟨decide_eq_false (by omega), decide_eq_true (by omega)⟩
  · rw [if_neg c13, if_neg c13]
    apply truth_mono b0 l0 b1 b2 l1 b3 h0 h1 h2 h3 h4 h5
    · intro h; have := of_decide_eq_true h; exact decide_eq_true (by omega)
    · intro h _; have := of_decide_eq_true h; exact ⟨decide_eq_false (by omega), decide_eq_true (by omega)⟩
theorem mono_do1 (op : Int) (o1 : 1 ≤ op) (o2 : op ≤ 14) : do1F op p q r s = allP ∨ Sub (do1F op p' q' r' s') (do1F op p q r s) := by
  have hop : op = 1 ∨ op = 2 ∨ op = 3 ∨ op = 4 ∨ op = 5 ∨ op = 6 ∨ op = 7 ∨ op = 8 ∨ op = 9 ∨ op = 10 ∨ op = 11 ∨ op = 12 ∨ op = 13 ∨ op = 14 := by omega
  rcases hop with rfl | rfl | rfl | rfl | rfl | rfl | rfl | rfl | rfl | rfl | rfl | rfl | rfl | rfl
  · exact mono1 b0 l0 b1 b2 l1 b3 h0 h1 h2 h3 h4 h5
  · exact mono2 b0 l0 b1 b2 l1 b3 h0 h1 h2 h3 h4 h5
  · exact mono3 b0 l0 b1 b2 l1 b3 h0 h1 h2 h3 h4 h5
  · exact mono4 b0 l0 b1 b2 l1 b3 h0 h1 h2 h3 h4 h5
  · exact mono5 b0 l0 b1 b2 l1 b3 h0 h1 h2 h3 h4 h5
  · exact mono_bit b0 l0 b1 b2 l1 b3 h0 h1 h2 h3 h4 h5 6
  · exact mono_bit b0 l0 b1 b2 l1 b3 h0 h1 h2 h3 h4 h5 7
  · exact mono_bit b0 l0 b1 b2 l1 b3 h0 h1 h2 h3 h4 h5 8
  · exact mono9 b0 l0 b1 b2 l1 b3 h0 h1 h2 h3 h4 h5
  · exact mono10 b0 l0 b1 b2 l1 b3 h0 h1 h2 h3 h4 h5
  · exact Or.inr (mono_cmp b0 l0 b1 b2 l1 b3 h0 h1 h2 h3 h4 h5 11)
  · exact Or.inr (mono_cmp b0 l0 b1 b2 l1 b3 h0 h1 h2 h3 h4 h5 12)
  · exact Or.inr (mono_cmp b0 l0 b1 b2 l1 b3 h0 h1 h2 h3 h4 h5 13)
  · exact Or.inr (mono_cmp b0 l0 b1 b2 l1 b3 h0 h1 h2 h3 h4 h5 14)
/-- Narrower intervals have narrower results. -/
theorem leq_do (op : Int) (o1 : 1 ≤ op) (o2 : op ≤ 14) : leq0 (doF op p' q' r' s').1 (doF op p' q' r' s').2 (doF op p q r s).1 (doF op p q r s).2 = true := by
  rw [doF_ne op (by omega) (by omega), doF_ne op (by omega) (by omega)]
  rcases mono_do1 b0 l0 b1 b2 l1 b3 h0 h1 h2 h3 h4 h5 op o1 o2 with h | h
  · rw [h]; exact leq_all (do1_fixed op (by omega) h1 (by omega) (by omega) h4 (by omega))
  · exact leq_sub h
end
end Go.Proofs.Ytdooadomkifbbaa
