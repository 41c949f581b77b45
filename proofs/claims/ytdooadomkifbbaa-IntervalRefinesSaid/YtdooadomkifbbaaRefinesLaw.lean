/-
  IntervalRefines in plain Lean: what the walk computes is true. Conditions: the kinds of its arguments.
-/
import Derived.Test.YtdooadomkifbbaaPRefinesx2
import Derived.Test.YtdooadomkifbbaaLawA
import Derived.Test.YtdooadomkifbbaaRefPlain
namespace Go.Proofs.YtdooadomkifbbaaG
open Go.RowKit Go.Proofs.Ytdooadomkifbbaa
set_option linter.unusedVariables false

theorem ref_val (op : Int) (t : Bool) {X Y : Int × Int} (fX : FixQ X) (fY : FixQ Y) : interval_Refine.f op t X.1 X.2 Y.1 Y.2 = some ((refF op t X.1 X.2 Y.1 Y.2).1.1, (refF op t X.1 X.2 Y.1 Y.2).1.2, (refF op t X.1 X.2 Y.1 Y.2).2.1, (refF op t X.1 X.2 Y.1 Y.2).2.2) := by
  unfold interval_Refine.f; rw [fix_of fX, fix_of fY]
theorem refines_j {o m n : Int} {X Y : Int × Int} (b : Bool) (o0 : 0 ≤ o) (o1 : o ≤ 255) (m0 : 0 ≤ m) (m1 : m ≤ 4294967295) (n0 : 0 ≤ n) (n1 : n ≤ 4294967295) (fX : FixQ X) (fY : FixQ Y)
    (hb' : b = false → (-2147483648 ≤ X.1 ∧ X.1 ≤ X.2 ∧ X.2 ≤ 2147483647) ∧ -2147483648 ≤ Y.1 ∧ Y.1 ≤ Y.2 ∧ Y.2 ≤ 2147483647) :
    PRefines.timeboundlaw07_IntervalRefines.j0 1 o m n b X.1 X.2 Y.1 Y.2 = some true := by
  simp only [PRefines.timeboundlaw07_IntervalRefines.j0]
  rw [op4 o0 o1]
  cases b
  · obtain ⟨hx, hy⟩ := hb' rfl
    have bx := inside_bd m hx.2.1
    have byy := inside_bd n hy.2.1
    rw [if_neg (by decide), inside_val hx m0 m1, inside_val hy n0 n1]
    simp only [Option.bind_some]
    rw [rdo_val _ _ (by omega) (by omega)]
    simp only [Option.bind_some]
    have ho : 11 + o % 4 = 11 ∨ 11 + o % 4 = 12 ∨ 11 + o % 4 = 13 ∨ 11 + o % 4 = 14 := by omega
    have hf := fine_all hx.1 hx.2.2 hy.1 hy.2.2 bx.1 bx.2 byy.1 byy.2 ho
    generalize 11 + o % 4 = op at *
    generalize X.1 + m % (X.2 - X.1 + 1) = i at *
    generalize Y.1 + n % (Y.2 - Y.1 + 1) = k at *
    generalize (wdo op i k == 1) = t at *
    rw [ref_val op t fX fY]
    simp only [Option.bind_some]
    generalize refF op t X.1 X.2 Y.1 Y.2 = Z at *
    obtain ⟨i0, i1, k0, k1, p0, p1, r0, r1, lo, hi⟩ := hf
    have fP : FixQ Z.1 := Or.inr ⟨by omega, by omega, by omega⟩
    have fQ : FixQ Z.2 := Or.inr ⟨by omega, by omega, by omega⟩
    rw [has_val i fP, show hasB Z.1.1 Z.1.2 i = true from decide_eq_true ⟨i0, i1⟩]
    simp only [Option.bind_some, if_true]
    rw [has_val k fQ, show hasB Z.2.1 Z.2.2 k = true from decide_eq_true ⟨k0, k1⟩]
    simp only [Option.bind_some, if_true]
    rw [leq_val fP fX, show leq0 Z.1.1 Z.1.2 X.1 X.2 = true from decide_eq_true (Or.inr ⟨hx.2.1, p0, p1⟩)]
    simp only [Option.bind_some, if_true]
    rw [leq_val fQ fY, show leq0 Z.2.1 Z.2.2 Y.1 Y.2 = true from decide_eq_true (Or.inr ⟨hy.2.1, r0, r1⟩)]
    simp only [Option.bind_some, if_true]
    have hop : 1 ≤ op ∧ op ≤ 14 := by omega
    rw [show timeboundlaw07_partner.f op t Z.1.1 Y.1 Y.2 = some true from if_pos ⟨⟨hop, by omega, by omega⟩, lo⟩]
    simp only [Option.bind_some, if_true]
    rw [show timeboundlaw07_partner.f op t Z.1.2 Y.1 Y.2 = some true from if_pos ⟨⟨hop, by omega, by omega⟩, hi⟩]
    rfl
  · rfl
theorem refines_pure {o a b c d h k m n : Int} (o0 : 0 ≤ o) (o1 : o ≤ 255) (a0 : -2147483648 ≤ a) (a1 : a ≤ 2147483647) (b0 : -2147483648 ≤ b) (b1 : b ≤ 2147483647) (c0 : -2147483648 ≤ c) (c1 : c ≤ 2147483647) (d0 : -2147483648 ≤ d) (d1 : d ≤ 2147483647) (h0 : 0 ≤ h) (h1 : h ≤ 255) (k0 : 0 ≤ k) (k1 : k ≤ 255) (m0 : 0 ≤ m) (m1 : m ≤ 4294967295) (n0 : 0 ≤ n) (n1 : n ≤ 4294967295) :
    PRefines.timeboundlaw07_IntervalRefines.f 1 o a b c d h k m n = some true := by
  unfold PRefines.timeboundlaw07_IntervalRefines.f interval_None.f
  rw [of_val a0 a1 b0 b1 h0 h1, of_val c0 c1 d0 d1 k0 k1]
  simp only [Option.bind_some]
  have fX : FixQ (ofF a b h) := of_fixed h a0 a1 b0 b1
  have fY : FixQ (ofF c d k) := of_fixed k c0 c1 d0 d1
  generalize ofF a b h = X at *
  generalize ofF c d k = Y at *
  cases q1 : (X.1 == 1 && X.2 == 0)
  · rw [if_neg (by decide)]
    exact refines_j _ o0 o1 m0 m1 n0 n1 fX fY (fun z => ⟨non_off fX q1, non_off fY z⟩)
  · rw [if_pos rfl]
    exact refines_j true o0 o1 m0 m1 n0 n1 fX fY (fun z => by cases z)
theorem refines_walk (o a b c d h k m n : Int) (o0 : 0 ≤ o) (o1 : o ≤ 255) (a0 : -2147483648 ≤ a) (a1 : a ≤ 2147483647) (b0 : -2147483648 ≤ b) (b1 : b ≤ 2147483647) (c0 : -2147483648 ≤ c) (c1 : c ≤ 2147483647) (d0 : -2147483648 ≤ d) (d1 : d ≤ 2147483647) (h0 : 0 ≤ h) (h1 : h ≤ 255) (k0 : 0 ≤ k) (k1 : k ≤ 255) (m0 : 0 ≤ m) (m1 : m ≤ 4294967295) (n0 : 0 ≤ n) (n1 : n ≤ 4294967295) (w : World) :
    Calls Try.prog 7 #[.int .u8 o, .int .i32 a, .int .i32 b, .int .i32 c, .int .i32 d, .agg #[.int .u8 h, .int .u8 k], .int .u32 m, .int .u32 n] w fun e w' => e = .returned (.bool true) ∧ Below w.heap.size w w' :=
  PRefines.timeboundlaw07_IntervalRefines.calls 1 o a b c d h k m n true w (refines_pure o0 o1 a0 a1 b0 b1 c0 c1 d0 d1 h0 h1 k0 k1 m0 m1 n0 n1)
end Go.Proofs.YtdooadomkifbbaaG
