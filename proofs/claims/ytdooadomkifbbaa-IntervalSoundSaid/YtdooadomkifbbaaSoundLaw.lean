/-
  IntervalSound in plain Lean: what the walk computes is true. Conditions: the kinds of its arguments.
-/
import Derived.Test.YtdooadomkifbbaaPSoundx2
import Derived.Test.YtdooadomkifbbaaFixed
namespace Go.Proofs.YtdooadomkifbbaaG
open Go.RowKit Go.Proofs.Ytdooadomkifbbaa Go.Proofs.YtdooadomkifbbaaW.PrintWords
set_option linter.unusedVariables false

theorem op14 {o : Int} (o0 : 0 ≤ o) (o1 : o ≤ 255) : wrap64 (1 + (Int.tmod (wrap64 o) 14)) = 1 + o % 14 := by
  have h : wrap64 o = o := w64_in (by omega) (by omega)
  rw [h, Int.tmod_eq_emod_of_nonneg o0]
  exact w64_in (by omega) (by omega)
theorem of_val {a b h : Int} (a0 : -2147483648 ≤ a) (a1 : a ≤ 2147483647) (b0 : -2147483648 ≤ b) (b1 : b ≤ 2147483647) (h0 : 0 ≤ h) (h1 : h ≤ 255) : timeboundlaw07_of.f a b h = some (ofF a b h) := if_pos ⟨⟨a0, a1⟩, ⟨b0, b1⟩, h0, h1⟩
theorem inside_val {p q n : Int} (h : -2147483648 ≤ p ∧ p ≤ q ∧ q ≤ 2147483647) (n0 : 0 ≤ n) (n1 : n ≤ 4294967295) : timeboundlaw07_inside.f p q n = some (p + n % (q - p + 1)) := if_pos ⟨h, n0, n1⟩
theorem rdo_val {op : Int} (a b : Int) (h1 : 1 ≤ op) (h2 : op ≤ 14) : timeboundref01_Do.f op a b = some (wdo op a b, 0) := if_pos ⟨h1, h2⟩
theorem do_val (op : Int) {X Y : Int × Int} (fX : FixP X) (fY : FixP Y) : interval_Do.f op X.1 X.2 Y.1 Y.2 = some (doF op X.1 X.2 Y.1 Y.2) := by
  unfold interval_Do.f; rw [fix_of fX, fix_of fY]
theorem has_val {X : Int × Int} (n : Int) (fX : FixP X) : interval_Has.f X.1 X.2 n = some (hasB X.1 X.2 n) := by
  unfold interval_Has.f hasF; rw [fix_of fX]
theorem leq_val {X Y : Int × Int} (fX : FixP X) (fY : FixP Y) : interval_Leq.f X.1 X.2 Y.1 Y.2 = some (leq0 X.1 X.2 Y.1 Y.2) := by
  unfold interval_Leq.f leqF; rw [fix_of fX, fix_of fY]
theorem inside_bd {p q : Int} (n : Int) (h : p ≤ q) : p ≤ p + n % (q - p + 1) ∧ p + n % (q - p + 1) ≤ q := by
  have u0 := Int.emod_nonneg n (show q - p + 1 ≠ 0 by omega)
  have u1 := Int.emod_lt_of_pos n (show 0 < q - p + 1 by omega)
  omega
theorem non_iff {X : Int × Int} : (X.1 == 1 && X.2 == 0) = true ↔ X = (1, 0) := by
  obtain ⟨x, y⟩ := X
  simp
/-- An interval that is valid and not None has words. -/
theorem non_off {X : Int × Int} (fX : FixP X) (h : (X.1 == 1 && X.2 == 0) = false) : -2147483648 ≤ X.1 ∧ X.1 ≤ X.2 ∧ X.2 ≤ 2147483647 := by
  rcases fX with ⟨h1, h2⟩ | h1
  · rw [h1, h2] at h; exact absurd h (by decide)
  · exact h1

theorem sound_j {o m n : Int} {X Y : Int × Int} (b : Bool) (o0 : 0 ≤ o) (o1 : o ≤ 255) (m0 : 0 ≤ m) (m1 : m ≤ 4294967295) (n0 : 0 ≤ n) (n1 : n ≤ 4294967295) (fX : FixP X) (fY : FixP Y)
    (hb : b = true → X = (1, 0) ∨ Y = (1, 0)) (hb' : b = false → (-2147483648 ≤ X.1 ∧ X.1 ≤ X.2 ∧ X.2 ≤ 2147483647) ∧ -2147483648 ≤ Y.1 ∧ Y.1 ≤ Y.2 ∧ Y.2 ≤ 2147483647) :
    PSound.timeboundlaw07_IntervalSound.j0 1 o m n b X.1 X.2 Y.1 Y.2 = some true := by
  simp only [PSound.timeboundlaw07_IntervalSound.j0]
  rw [op14 o0 o1, do_val _ fX fY]
  simp only [Option.bind_some]
  cases b
  · obtain ⟨hx, hy⟩ := hb' rfl
    have bx := inside_bd m hx.2.1
    have byy := inside_bd n hy.2.1
    have hs := do_sound (1 + o % 14) (by omega) (by omega) fX fY bx.1 bx.2 byy.1 byy.2
    have fz := do_fixed (1 + o % 14) fX fY
    rw [if_neg (by decide), inside_val hx m0 m1, inside_val hy n0 n1]
    simp only [Option.bind_some]
    rw [rdo_val _ _ (by omega) (by omega)]
    simp only [Option.bind_some]
    rw [has_val _ fz]
    simp only [Option.bind_some]
    rw [if_pos (has_in hs)]
    unfold interval_Valid.f timeboundlaw07_awake.f
    simp only [Option.bind_some]
    rw [if_pos (val_fix fz)]
  · rw [if_pos rfl]
    have e : doF (1 + o % 14) X.1 X.2 Y.1 Y.2 = (1, 0) := by
      rcases hb rfl with h | h
      · exact doF_e1 _ _ _ (by rw [h]; decide)
      · exact doF_e2 _ _ _ (by rw [h]; decide)
    rw [e]
    unfold interval_None.f timeboundlaw07_awake.f
    simp only [Option.bind_some]
    rw [if_pos (by decide)]
theorem sound_pure {o a b c d h k m n : Int} (o0 : 0 ≤ o) (o1 : o ≤ 255) (a0 : -2147483648 ≤ a) (a1 : a ≤ 2147483647) (b0 : -2147483648 ≤ b) (b1 : b ≤ 2147483647) (c0 : -2147483648 ≤ c) (c1 : c ≤ 2147483647) (d0 : -2147483648 ≤ d) (d1 : d ≤ 2147483647) (h0 : 0 ≤ h) (h1 : h ≤ 255) (k0 : 0 ≤ k) (k1 : k ≤ 255) (m0 : 0 ≤ m) (m1 : m ≤ 4294967295) (n0 : 0 ≤ n) (n1 : n ≤ 4294967295) :
    PSound.timeboundlaw07_IntervalSound.f 1 o a b c d h k m n = some true := by
  unfold PSound.timeboundlaw07_IntervalSound.f interval_None.f
  rw [of_val a0 a1 b0 b1 h0 h1, of_val c0 c1 d0 d1 k0 k1]
  simp only [Option.bind_some]
  have fX : FixP (ofF a b h) := of_fixed h a0 a1 b0 b1
  have fY : FixP (ofF c d k) := of_fixed k c0 c1 d0 d1
  generalize ofF a b h = X at *
  generalize ofF c d k = Y at *
  cases q1 : (X.1 == 1 && X.2 == 0)
  · rw [if_neg (by decide)]
    refine sound_j _ o0 o1 m0 m1 n0 n1 fX fY (fun z => Or.inr (non_iff.1 z)) (fun z => ⟨non_off fX q1, non_off fY z⟩)
  · rw [if_pos rfl]
    exact sound_j true o0 o1 m0 m1 n0 n1 fX fY (fun _ => Or.inl (non_iff.1 q1)) (fun z => by cases z)
theorem sound_walk (o a b c d h k m n : Int) (o0 : 0 ≤ o) (o1 : o ≤ 255) (a0 : -2147483648 ≤ a) (a1 : a ≤ 2147483647) (b0 : -2147483648 ≤ b) (b1 : b ≤ 2147483647) (c0 : -2147483648 ≤ c) (c1 : c ≤ 2147483647) (d0 : -2147483648 ≤ d) (d1 : d ≤ 2147483647) (h0 : 0 ≤ h) (h1 : h ≤ 255) (k0 : 0 ≤ k) (k1 : k ≤ 255) (m0 : 0 ≤ m) (m1 : m ≤ 4294967295) (n0 : 0 ≤ n) (n1 : n ≤ 4294967295) (w : World) :
    Calls Try.prog 5 #[.int .u8 o, .int .i32 a, .int .i32 b, .int .i32 c, .int .i32 d, .agg #[.int .u8 h, .int .u8 k], .int .u32 m, .int .u32 n] w fun e w' => e = .returned (.bool true) ∧ Below w.heap.size w w' :=
  PSound.timeboundlaw07_IntervalSound.calls 1 o a b c d h k m n true w (sound_pure o0 o1 a0 a1 b0 b1 c0 c1 d0 d1 h0 h1 k0 k1 m0 m1 n0 n1)
end Go.Proofs.YtdooadomkifbbaaG
