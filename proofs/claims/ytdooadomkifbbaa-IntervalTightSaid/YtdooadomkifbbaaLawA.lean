/-
  What the given contracts come to at valid intervals. Conditions: the intervals are valid; the helpers' arguments are of their kinds.
-/
import Derived.Test.YtdooadomkifbbaaGivenA
namespace Go.Proofs.YtdooadomkifbbaaG
open Go.RowKit Go.Proofs.Ytdooadomkifbbaa
set_option linter.unusedVariables false
/-- What Fix gives. -/
def FixQ (z : Int × Int) : Prop := Fixed z.1 z.2
theorem op14 {o : Int} (o0 : 0 ≤ o) (o1 : o ≤ 255) : wrap64 (1 + (Int.tmod (wrap64 o) 14)) = 1 + o % 14 := by
  have h : wrap64 o = o := w64_in (by omega) (by omega)
  rw [h, Int.tmod_eq_emod_of_nonneg o0]
  exact w64_in (by omega) (by omega)
theorem of_val {a b h : Int} (a0 : -2147483648 ≤ a) (a1 : a ≤ 2147483647) (b0 : -2147483648 ≤ b) (b1 : b ≤ 2147483647) (h0 : 0 ≤ h) (h1 : h ≤ 255) : timeboundlaw07_of.f a b h = some (ofF a b h) := if_pos ⟨⟨a0, a1⟩, ⟨b0, b1⟩, h0, h1⟩
theorem inside_val {p q n : Int} (h : -2147483648 ≤ p ∧ p ≤ q ∧ q ≤ 2147483647) (n0 : 0 ≤ n) (n1 : n ≤ 4294967295) : timeboundlaw07_inside.f p q n = some (p + n % (q - p + 1)) := if_pos ⟨h, n0, n1⟩
theorem rdo_val {op : Int} (a b : Int) (h1 : 1 ≤ op) (h2 : op ≤ 14) : timeboundref01_Do.f op a b = some (wdo op a b, 0) := if_pos ⟨h1, h2⟩
theorem has_val {X : Int × Int} (n : Int) (fX : FixQ X) : interval_Has.f X.1 X.2 n = some (hasB X.1 X.2 n) := by
  unfold interval_Has.f hasF; rw [fix_of fX]
theorem leq_val {X Y : Int × Int} (fX : FixQ X) (fY : FixQ Y) : interval_Leq.f X.1 X.2 Y.1 Y.2 = some (leq0 X.1 X.2 Y.1 Y.2) := by
  unfold interval_Leq.f leqF; rw [fix_of fX, fix_of fY]
theorem inside_bd {p q : Int} (n : Int) (h : p ≤ q) : p ≤ p + n % (q - p + 1) ∧ p + n % (q - p + 1) ≤ q := by
  have u0 := Int.emod_nonneg n (show q - p + 1 ≠ 0 by omega)
  have u1 := Int.emod_lt_of_pos n (show 0 < q - p + 1 by omega)
  omega
theorem non_iff {X : Int × Int} : (X.1 == 1 && X.2 == 0) = true ↔ X = (1, 0) := by
  obtain ⟨x, y⟩ := X
  simp
/-- An interval that is valid and not None has words. -/
theorem non_off {X : Int × Int} (fX : FixQ X) (h : (X.1 == 1 && X.2 == 0) = false) : -2147483648 ≤ X.1 ∧ X.1 ≤ X.2 ∧ X.2 ≤ 2147483647 := by
  rcases fX with ⟨h1, h2⟩ | h1
  · rw [h1, h2] at h; exact absurd h (by decide)
  · exact h1

theorem op4 {o : Int} (o0 : 0 ≤ o) (o1 : o ≤ 255) : wrap64 (11 + (Int.tmod (wrap64 o) 4)) = 11 + o % 4 := by
  have h : wrap64 o = o := w64_in (by omega) (by omega)
  rw [h, Int.tmod_eq_emod_of_nonneg o0]
  exact w64_in (by omega) (by omega)
theorem join_val {X Y : Int × Int} (fX : FixQ X) (fY : FixQ Y) : interval_Join.f X.1 X.2 Y.1 Y.2 = some (join0 X.1 X.2 Y.1 Y.2) := by
  unfold interval_Join.f joinF; rw [fix_of fX, fix_of fY]
theorem meet_val {X Y : Int × Int} (fX : FixQ X) (fY : FixQ Y) : interval_Meet.f X.1 X.2 Y.1 Y.2 = some (meet0 X.1 X.2 Y.1 Y.2) := by
  unfold interval_Meet.f meetF; rw [fix_of fX, fix_of fY]
end Go.Proofs.YtdooadomkifbbaaG
