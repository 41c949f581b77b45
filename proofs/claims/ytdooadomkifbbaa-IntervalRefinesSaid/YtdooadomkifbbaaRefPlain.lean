/-
  Refine on intervals of words, in plain Lean: two words for which a comparison is as said stay, what is left lies within, and each end has a partner. Conditions: words.
-/
import Derived.Test.YtdooadomkifbbaaGivenP
import Derived.Test.YtdooadomkifbbaaPlain4
import Derived.Test.YtdooadomkifbbaaWord
namespace Go.Proofs.YtdooadomkifbbaaG
open Go.RowKit Go.Proofs.Ytdooadomkifbbaa
set_option linter.unusedVariables false
set_option linter.unusedSectionVars false

def isW (n : Int) : Prop := -2147483648 ≤ n ∧ n ≤ 2147483647
/-- What a comparison says, of words. -/
def cmpB (op a b : Int) : Bool := if op = 11 then decide (a < b) else if op = 12 then decide (a ≤ b) else if op = 13 then decide (a = b) else decide (¬ a = b)
theorem cmp_val {op a b : Int} (ho : op = 11 ∨ op = 12 ∨ op = 13 ∨ op = 14) (ha : isW a) (hb : isW b) : (wdo op a b == 1) = cmpB op a b := by
  have ea := w32_of a ha.1 ha.2
  have eb := w32_of b hb.1 hb.2
  have z0 : wrap32 0 = 0 := by unfold wrap32; decide
  have z1 : wrap32 1 = 1 := by unfold wrap32; decide
  rcases ho with rfl | rfl | rfl | rfl
  · have e : wdo 11 a b = wrap32 (if a < b then 1 else 0) := by unfold wdo; rw [ea, eb]; rfl
    rw [e]; show (wrap32 (if a < b then 1 else 0) == 1) = decide (a < b)
    by_cases h : a < b
    · rw [if_pos h, z1, decide_eq_true h]; rfl
    · rw [if_neg h, z0, decide_eq_false h]; rfl
  · have e : wdo 12 a b = wrap32 (if a ≤ b then 1 else 0) := by unfold wdo; rw [ea, eb]; rfl
    rw [e]; show (wrap32 (if a ≤ b then 1 else 0) == 1) = decide (a ≤ b)
    by_cases h : a ≤ b
    · rw [if_pos h, z1, decide_eq_true h]; rfl
    · rw [if_neg h, z0, decide_eq_false h]; rfl
  · have e : wdo 13 a b = wrap32 (if a = b then 1 else 0) := by unfold wdo; rw [ea, eb]; rfl
    rw [e]; show (wrap32 (if a = b then 1 else 0) == 1) = decide (a = b)
    by_cases h : a = b
    · rw [if_pos h, z1, decide_eq_true h]; rfl
    · rw [if_neg h, z0, decide_eq_false h]; rfl
  · have e : wdo 14 a b = wrap32 (if a = b then 0 else 1) := by unfold wdo; rw [ea, eb]; rfl
    rw [e]; show (wrap32 (if a = b then 0 else 1) == 1) = decide (¬ a = b)
    by_cases h : a = b
    · rw [if_pos h, z0, decide_eq_false (by simpa using h)]; rfl
    · rw [if_neg h, z1, decide_eq_true h]; rfl
/-- A word of the interval that is one of the three that matter. -/
theorem good_mk {op n r s l : Int} {t : Bool} (ho : op = 11 ∨ op = 12 ∨ op = 13 ∨ op = 14) (hn : isW n) (hl : isW l) (h0 : r ≤ l) (h1 : l ≤ s) (hc : cmpB op n l = t) (hm : l = r ∨ l = s ∨ l = n) : goodP op t n r s := by
  have f : fits op t n r s l = true := by
    unfold fits; rw [decide_eq_true h0, decide_eq_true h1, cmp_val ho hn hl, hc]; simp
  rcases hm with rfl | rfl | rfl
  · exact Or.inl f
  · exact Or.inr (Or.inl f)
  · exact Or.inr (Or.inr (Or.inl f))
/-- What is to be shown of two intervals that are left. -/
structure Fine (op : Int) (t : Bool) (p q r s i k : Int) (Z : (Int × Int) × (Int × Int)) : Prop where
  i0 : Z.1.1 ≤ i
  i1 : i ≤ Z.1.2
  k0 : Z.2.1 ≤ k
  k1 : k ≤ Z.2.2
  p0 : p ≤ Z.1.1
  p1 : Z.1.2 ≤ q
  r0 : r ≤ Z.2.1
  r1 : Z.2.2 ≤ s
  lo : goodP op t Z.1.1 r s
  hi : goodP op t Z.1.2 r s
theorem fine_mk {op p q r s i k a b c d : Int} {t : Bool} (i0 : a ≤ i) (i1 : i ≤ b) (k0 : c ≤ k) (k1 : k ≤ d) (p0 : p ≤ a) (p1 : b ≤ q) (r0 : r ≤ c) (r1 : d ≤ s) (lo : goodP op t a r s) (hi : goodP op t b r s) :
    Fine op t p q r s i k (finF (made a b) (made c d)) := by
  have e1 : made a b = (a, b) := if_neg (by omega)
  have e2 : made c d = (c, d) := if_neg (by omega)
  rw [e1, e2, fin_1 (by unfold emptyB; exact decide_eq_false (by simp only; omega)) (by unfold emptyB; exact decide_eq_false (by simp only; omega))]
  exact ⟨i0, i1, k0, k1, p0, p1, r0, r1, lo, hi⟩
section
variable {p q r s i k : Int} (hp : -2147483648 ≤ p) (hq : q ≤ 2147483647) (hr : -2147483648 ≤ r) (hs : s ≤ 2147483647) (i0 : p ≤ i) (i1 : i ≤ q) (k0 : r ≤ k) (k1 : k ≤ s)
include hp hq hr hs i0 i1 k0 k1
theorem fine_11t (h : i < k) : Fine 11 true p q r s i k (refF 11 true p q r s) := by
  rw [refF_11t (by omega) (by omega)]
  have m : mnI q (s - 1) ≤ q ∧ mnI q (s - 1) ≤ s - 1 ∧ i ≤ mnI q (s - 1) := by unfold mnI; split <;> omega
  have x : r ≤ mxI r (p + 1) ∧ mxI r (p + 1) ≤ k := by unfold mxI; split <;> omega
  have g : ∀ a, isW a → a ≤ s - 1 → goodP 11 true a r s := fun a ha hb => good_mk (l := s) (by omega) ha ⟨by omega, by omega⟩ (by omega) (by omega) (decide_eq_true (by omega)) (by omega)
  exact fine_mk (by omega) (by omega) (by omega) (by omega) (by omega) (by omega) (by omega) (by omega) (g _ ⟨by omega, by omega⟩ (by omega)) (g _ ⟨by omega, by omega⟩ (by omega))
theorem fine_11f (h : ¬ i < k) : Fine 11 false p q r s i k (refF 11 false p q r s) := by
  rw [refF_11f (by omega) (by omega)]
  have m : mnI s q ≤ s ∧ mnI s q ≤ q ∧ k ≤ mnI s q := by unfold mnI; split <;> omega
  have x : r ≤ mxI p r ∧ p ≤ mxI p r ∧ mxI p r ≤ i := by unfold mxI; split <;> omega
  have g : ∀ a, isW a → r ≤ a → goodP 11 false a r s := fun a ha hb => good_mk (l := r) (by omega) ha ⟨by omega, by omega⟩ (by omega) (by omega) (decide_eq_false (by omega)) (by omega)
  exact fine_mk (by omega) (by omega) (by omega) (by omega) (by omega) (by omega) (by omega) (by omega) (g _ ⟨by omega, by omega⟩ (by omega)) (g _ ⟨by omega, by omega⟩ (by omega))
theorem fine_12t (h : i ≤ k) : Fine 12 true p q r s i k (refF 12 true p q r s) := by
  rw [refF_12t (by omega) (by omega)]
  have m : mnI q s ≤ q ∧ mnI q s ≤ s ∧ i ≤ mnI q s := by unfold mnI; split <;> omega
  have x : r ≤ mxI r p ∧ mxI r p ≤ k := by unfold mxI; split <;> omega
  have g : ∀ a, isW a → a ≤ s → goodP 12 true a r s := fun a ha hb => good_mk (l := s) (by omega) ha ⟨by omega, by omega⟩ (by omega) (by omega) (decide_eq_true (by omega)) (by omega)
  exact fine_mk (by omega) (by omega) (by omega) (by omega) (by omega) (by omega) (by omega) (by omega) (g _ ⟨by omega, by omega⟩ (by omega)) (g _ ⟨by omega, by omega⟩ (by omega))
theorem fine_12f (h : ¬ i ≤ k) : Fine 12 false p q r s i k (refF 12 false p q r s) := by
  rw [refF_12f (by omega) (by omega)]
  have m : mnI s (q - 1) ≤ s ∧ k ≤ mnI s (q - 1) := by unfold mnI; split <;> omega
  have x : r + 1 ≤ mxI p (r + 1) ∧ p ≤ mxI p (r + 1) ∧ mxI p (r + 1) ≤ i := by unfold mxI; split <;> omega
  have g : ∀ a, isW a → r + 1 ≤ a → goodP 12 false a r s := fun a ha hb => good_mk (l := r) (by omega) ha ⟨by omega, by omega⟩ (by omega) (by omega) (decide_eq_false (by omega)) (by omega)
  exact fine_mk (by omega) (by omega) (by omega) (by omega) (by omega) (by omega) (by omega) (by omega) (g _ ⟨by omega, by omega⟩ (by omega)) (g _ ⟨by omega, by omega⟩ (by omega))
theorem fine_meet {op : Int} {t : Bool} (ho : op = 13 ∨ op = 14) (g : ∀ a, isW a → r ≤ a → a ≤ s → goodP op t a r s) (h : i = k) : Fine op t p q r s i k (finF (meet0 p q r s) (meet0 p q r s)) := by
  have e : meet0 p q r s = made (mxI p r) (mnI q s) := by unfold meet0; rw [if_neg (by omega), if_neg (by omega)]
  rw [e]
  have m : mnI q s ≤ q ∧ mnI q s ≤ s ∧ i ≤ mnI q s := by unfold mnI; split <;> omega
  have x : r ≤ mxI p r ∧ p ≤ mxI p r ∧ mxI p r ≤ i := by unfold mxI; split <;> omega
  exact fine_mk (by omega) (by omega) (by omega) (by omega) (by omega) (by omega) (by omega) (by omega) (g _ ⟨by omega, by omega⟩ (by omega) (by omega)) (g _ ⟨by omega, by omega⟩ (by omega) (by omega))
/-- What is left of an interval without the one word of another. -/
theorem wf_is (h : i ≠ k) : ∃ a b, wfF p q r s = made a b ∧ p ≤ a ∧ b ≤ q ∧ a ≤ i ∧ i ≤ b ∧ (r = s → a ≠ r ∧ b ≠ r) := by
  unfold wfF
  by_cases e : r = s
  · rw [if_pos e]
    unfold withoutF
    by_cases e1 : r = p
    · rw [if_pos e1]; exact ⟨p + 1, q, rfl, by omega, by omega, by omega, by omega, fun _ => ⟨by omega, by omega⟩⟩
    · rw [if_neg e1]
      by_cases e2 : r = q
      · rw [if_pos e2]; exact ⟨p, q - 1, rfl, by omega, by omega, by omega, by omega, fun _ => ⟨by omega, by omega⟩⟩
      · rw [if_neg e2]; exact ⟨p, q, (if_neg (by omega)).symm, by omega, by omega, by omega, by omega, fun _ => ⟨by omega, by omega⟩⟩
  · rw [if_neg e]; exact ⟨p, q, (if_neg (by omega)).symm, by omega, by omega, by omega, by omega, fun z => absurd z e⟩
theorem fine_ne {op : Int} {t : Bool} (ho : op = 13 ∨ op = 14) (g : ∀ a l, isW a → isW l → a ≠ l → cmpB op a l = t) (h : i ≠ k) : Fine op t p q r s i k (finF (wfF p q r s) (wfF r s p q)) := by
  obtain ⟨a, b, e1, a0, b0, a1, b1, ab⟩ := wf_is hp hq hr hs i0 i1 k0 k1 h
  obtain ⟨c, d, e2, c0, d0, c1, d1, _⟩ := wf_is hr hs hp hq k0 k1 i0 i1 (Ne.symm h)
  rw [e1, e2]
  have gg : ∀ x, isW x → (r = s → x ≠ r) → goodP op t x r s := by
    intro x hx hn
    by_cases e : x = r
    · exact good_mk (l := s) (by omega) hx ⟨by omega, by omega⟩ (by omega) (by omega) (g _ _ hx ⟨by omega, by omega⟩ (by intro z; exact hn (by omega) e)) (by omega)
    · exact good_mk (l := r) (by omega) hx ⟨by omega, by omega⟩ (by omega) (by omega) (g _ _ hx ⟨by omega, by omega⟩ e) (by omega)
  exact fine_mk a1 b1 c1 d1 a0 b0 c0 d0 (gg _ ⟨by omega, by omega⟩ (fun z => (ab z).1)) (gg _ ⟨by omega, by omega⟩ (fun z => (ab z).2))
/-- Two words for which a comparison is as said stay within the refined intervals. -/
theorem fine_all {op : Int} (ho : op = 11 ∨ op = 12 ∨ op = 13 ∨ op = 14) : Fine op (wdo op i k == 1) p q r s i k (refF op (wdo op i k == 1) p q r s) := by
  rw [cmp_val ho ⟨by omega, by omega⟩ ⟨by omega, by omega⟩]
  rcases ho with rfl | rfl | rfl | rfl
  · by_cases h : i < k
    · rw [show cmpB 11 i k = true from decide_eq_true h]; exact fine_11t hp hq hr hs i0 i1 k0 k1 h
    · rw [show cmpB 11 i k = false from decide_eq_false h]; exact fine_11f hp hq hr hs i0 i1 k0 k1 h
  · by_cases h : i ≤ k
    · rw [show cmpB 12 i k = true from decide_eq_true h]; exact fine_12t hp hq hr hs i0 i1 k0 k1 h
    · rw [show cmpB 12 i k = false from decide_eq_false h]; exact fine_12f hp hq hr hs i0 i1 k0 k1 h
  · by_cases h : i = k
    · rw [show cmpB 13 i k = true from decide_eq_true h, refF_13t (by omega) (by omega)]
      exact fine_meet hp hq hr hs i0 i1 k0 k1 (Or.inl rfl) (fun a ha h0 h1 => good_mk (l := a) (by omega) ha ha h0 h1 (decide_eq_true rfl) (by omega)) h
    · rw [show cmpB 13 i k = false from decide_eq_false h, refF_13f (by omega) (by omega)]
      exact fine_ne hp hq hr hs i0 i1 k0 k1 (Or.inl rfl) (fun a l _ _ z => decide_eq_false z) h
  · by_cases h : i = k
    · rw [show cmpB 14 i k = false from decide_eq_false (fun z => z h), refF_14f (by omega) (by omega)]
      exact fine_meet hp hq hr hs i0 i1 k0 k1 (Or.inr rfl) (fun a ha h0 h1 => good_mk (l := a) (by omega) ha ha h0 h1 (decide_eq_false (fun z => z rfl)) (by omega)) h
    · rw [show cmpB 14 i k = true from decide_eq_true h, refF_14t (by omega) (by omega)]
      exact fine_ne hp hq hr hs i0 i1 k0 k1 (Or.inr rfl) (fun a l _ _ z => decide_eq_true z) h
end
end Go.Proofs.YtdooadomkifbbaaG
