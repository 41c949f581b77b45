/-
  CongruenceSound in plain Lean: what the walk computes is true. Conditions: the kinds of its arguments; for the walk, the library's table in its variable.
-/
import Derived.Test.YtaphfmbloappkaaDoorEvalB
import Derived.Test.YtaphfmbloappkaaDoorPAllx6
namespace Go.Proofs.YtaphfmbloappkaaDoorG
open Go.RowKit Go.Proofs.YtaphfmbloappkaaDoor PAll

theorem sound_j {o m n : Int} {x y : El} (b : Bool) (o0 : 0 ≤ o) (o1 : o ≤ 255) (m0 : 0 ≤ m) (m1 : m ≤ 4294967295) (n0 : 0 ≤ n) (n1 : n ≤ 4294967295) (hx : okE x) (hy : okE y) (hb : b = (x.isNone || y.isNone)) :
    timeboundlaw08_CongruenceSound.j0 5 o m n b (val x).1 (val x).2 (val y).1 (val y).2 = some true := by
  simp only [timeboundlaw08_CongruenceSound.j0]
  rw [op14 o0 o1]
  have dv := do_val (1 + o % 14) hx hy 0
  simp only [Nat.zero_add] at dv
  rw [dv]
  subst hb
  rcases x with _ | ⟨b, r⟩
  · rw [if_pos (by rfl)]
    simp only [Option.bind_some, congruence_None.f]
    rw [if_pos (by rfl), awake_val 0]
    rfl
  rcases y with _ | ⟨c, s⟩
  · rw [if_pos (by rfl)]
    simp only [Option.bind_some, congruence_None.f]
    rw [if_pos (by rfl), awake_val 0]
    rfl
  · rw [if_neg (by simp)]
    obtain ⟨i, iw, il, im⟩ := member_val (b := b) (r := r) hx m0 m1
    obtain ⟨j, jw, jl, jm⟩ := member_val (b := c) (r := s) hy n0 n1
    rw [show timeboundlaw08_member.f (val (some (b, r))).1 (val (some (b, r))).2 m = some i from im, show timeboundlaw08_member.f (val (some (c, s))).1 (val (some (c, s))).2 n = some j from jm]
    simp only [Option.bind_some]
    have ho : 1 ≤ 1 + o % 14 ∧ 1 + o % 14 ≤ 14 := by omega
    rw [show timeboundref01_Do.f (1 + o % 14) i j = some (wdo (1 + o % 14) i j, 0) from if_pos ho]
    simp only [Option.bind_some]
    have zo := do_ok (1 + o % 14) hx hy
    have hs := do_sound ho.1 ho.2 hx hy il jl
    rw [has_val hx i 3, has_word hx i il iw]
    simp only [Option.bind_some]
    rw [if_pos trivial, has_val hy j 3, has_word hy j jl jw]
    simp only [Option.bind_some]
    rw [if_pos trivial, has_val zo _ 3, has_word zo _ hs (wdo_bd _ _ _)]
    simp only [Option.bind_some]
    rw [if_pos trivial, valid_val zo]
    simp only [Option.bind_some]
    rw [if_pos trivial, awake_val 0]
    rfl
theorem sound_pure {o a b h k m n : Int} (o0 : 0 ≤ o) (o1 : o ≤ 255) (a0 : -2147483648 ≤ a) (a1 : a ≤ 2147483647) (b0 : -2147483648 ≤ b) (b1 : b ≤ 2147483647) (h0 : 0 ≤ h) (h1 : h ≤ 255) (k0 : 0 ≤ k) (k1 : k ≤ 255) (m0 : 0 ≤ m) (m1 : m ≤ 4294967295) (n0 : 0 ≤ n) (n1 : n ≤ 4294967295) :
    timeboundlaw08_CongruenceSound.f 5 o a b h k m n = some true := by
  obtain ⟨x, hx, ex⟩ := of_val a0 a1 h0 h1
  obtain ⟨y, hy, ey⟩ := of_val b0 b1 k0 k1
  unfold timeboundlaw08_CongruenceSound.f congruence_None.f
  rw [ex, ey]
  simp only [Option.bind_some]
  have nx := none_val hx
  have ny := none_val hy
  rw [nx, ny]
  cases hn : x.isNone
  · rw [if_neg (by decide)]
    exact sound_j _ o0 o1 m0 m1 n0 n1 hx hy (by rw [hn]; rfl)
  · rw [if_pos rfl]
    exact sound_j _ o0 o1 m0 m1 n0 n1 hx hy (by rw [hn]; rfl)
theorem sound_walk (o a b h k m n : Int) (o0 : 0 ≤ o) (o1 : o ≤ 255) (a0 : -2147483648 ≤ a) (a1 : a ≤ 2147483647) (b0 : -2147483648 ≤ b) (b1 : b ≤ 2147483647) (h0 : 0 ≤ h) (h1 : h ≤ 255) (k0 : 0 ≤ k) (k1 : k ≤ 255) (m0 : 0 ≤ m) (m1 : m ≤ 4294967295) (n0 : 0 ≤ n) (n1 : n ≤ 4294967295) (w : World) (hT : TabOK w) :
    Calls Tryd.prog 3 #[.int .u8 o, .int .i32 a, .int .i32 b, .agg #[.int .u8 h, .int .u8 k], .int .u32 m, .int .u32 n] w fun e w' => e = .returned (.bool true) ∧ Below w.heap.size w w' :=
  timeboundlaw08_CongruenceSound.calls 5 o a b h k m n true w (sound_pure o0 o1 a0 a1 b0 b1 h0 h1 k0 k1 m0 m1 n0 n1) hT
end Go.Proofs.YtaphfmbloappkaaDoorG
