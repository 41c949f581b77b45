/-
  CongruenceNarrows in plain Lean: what the walk computes is true. Conditions: the kinds of its arguments; for the walk, the library's table in its variable.
-/
import Derived.Test.YtaphfmbloappkaaDoorEvalB
import Derived.Test.YtaphfmbloappkaaDoorPAllx8
namespace Go.Proofs.YtaphfmbloappkaaDoorG
open Go.RowKit Go.Proofs.YtaphfmbloappkaaDoor PAll

theorem narrows_j {o m n c : Int} {x y : El} (b : Bool) (o0 : 0 ≤ o) (o1 : o ≤ 255) (m0 : 0 ≤ m) (m1 : m ≤ 4294967295) (n0 : 0 ≤ n) (n1 : n ≤ 4294967295) (c0 : -2147483648 ≤ c) (c1 : c ≤ 2147483647) (hx : okE x) (hy : okE y) (hb : b = (x.isNone || y.isNone)) :
    timeboundlaw08_CongruenceNarrows.j0 5 o m n c b (val x).1 (val x).2 (val y).1 (val y).2 = some true := by
  simp only [timeboundlaw08_CongruenceNarrows.j0]
  rw [op14 o0 o1]
  subst hb
  rcases x with _ | ⟨b, r⟩
  · rw [if_pos (by rfl), awake_val 0]
    rfl
  rcases y with _ | ⟨d, s⟩
  · rw [if_pos (by rfl), awake_val 0]
    rfl
  rw [if_neg (by simp)]
  obtain ⟨i, iw, il, im⟩ := member_val (b := b) (r := r) hx m0 m1
  obtain ⟨j, jw, jl, jm⟩ := member_val (b := d) (r := s) hy n0 n1
  rw [show timeboundlaw08_member.f (val (some (b, r))).1 (val (some (b, r))).2 m = some i from im, show timeboundlaw08_member.f (val (some (d, s))).1 (val (some (d, s))).2 n = some j from jm]
  simp only [Option.bind_some]
  rw [of_w i, of_w j]
  simp only [Option.bind_some]
  have oi : okE (some (32, i)) := Or.inr rfl
  have oj : okE (some (32, j)) := Or.inr rfl
  have oc : okE (some (32, c)) := Or.inr rfl
  have wc : wrap64 c = c := w64_small (by omega) (by omega)
  have lv := leq_val oi hx 3
  rw [il] at lv
  rw [show congruence_Leq.f 4 (low 32 i).1 (low 32 i).2 (val (some (b, r))).1 (val (some (b, r))).2 = some true from lv]
  simp only [Option.bind_some, if_true]
  have d1 := do_val (1 + o % 14) oi hy 0
  have d2 := do_val (1 + o % 14) hx hy 0
  have d3 := do_val (1 + o % 14) hx oj 0
  simp only [Nat.zero_add] at d1 d2 d3
  have k1 := do_ok (1 + o % 14) oi hy
  have k2 := do_ok (1 + o % 14) hx hy
  have k3 := do_ok (1 + o % 14) hx oj
  rw [show congruence_Do.f 4 (1 + o % 14) (low 32 i).1 (low 32 i).2 (val (some (d, s))).1 (val (some (d, s))).2 = _ from d1, d2]
  simp only [Option.bind_some]
  rw [leq_val k1 k2 3, do_mono1 _ i hx hy il]
  simp only [Option.bind_some, if_true]
  rw [show congruence_Do.f 4 (1 + o % 14) (val (some (b, r))).1 (val (some (b, r))).2 (low 32 j).1 (low 32 j).2 = _ from d3]
  simp only [Option.bind_some]
  rw [leq_val k3 k2 3, do_mono2 _ j hx hy jl]
  simp only [Option.bind_some, if_true]
  rw [wc, of_w c]
  simp only [Option.bind_some]
  have e1 := do_val 1 hx oc 0
  have g1 := do_ok 1 hx oc
  have e2 := do_val 2 g1 oc 0
  simp only [Nat.zero_add] at e1 e2
  rw [show congruence_Do.f 4 1 (val (some (b, r))).1 (val (some (b, r))).2 (low 32 c).1 (low 32 c).2 = _ from e1]
  simp only [Option.bind_some]
  rw [show congruence_Do.f 4 2 (val (doE 1 (some (b, r)) (some (32, c)))).1 (val (doE 1 (some (b, r)) (some (32, c)))).2 (low 32 c).1 (low 32 c).2 = _ from e2]
  simp only [Option.bind_some]
  rw [add_sub c hx, if_pos (by rw [beq_pair]), awake_val 0]
  rfl
theorem narrows_pure {o a b h k m n c : Int} (o0 : 0 ≤ o) (o1 : o ≤ 255) (a0 : -2147483648 ≤ a) (a1 : a ≤ 2147483647) (b0 : -2147483648 ≤ b) (b1 : b ≤ 2147483647) (h0 : 0 ≤ h) (h1 : h ≤ 255) (k0 : 0 ≤ k) (k1 : k ≤ 255) (m0 : 0 ≤ m) (m1 : m ≤ 4294967295) (n0 : 0 ≤ n) (n1 : n ≤ 4294967295) (c0 : -2147483648 ≤ c) (c1 : c ≤ 2147483647) :
    timeboundlaw08_CongruenceNarrows.f 5 o a b h k m n c = some true := by
  obtain ⟨x, hx, ex⟩ := of_val a0 a1 h0 h1
  obtain ⟨y, hy, ey⟩ := of_val b0 b1 k0 k1
  unfold timeboundlaw08_CongruenceNarrows.f congruence_None.f
  rw [ex, ey]
  simp only [Option.bind_some]
  rw [none_val hx, none_val hy]
  cases hn : x.isNone
  · rw [if_neg (by decide)]
    exact narrows_j _ o0 o1 m0 m1 n0 n1 c0 c1 hx hy (by rw [hn]; rfl)
  · rw [if_pos rfl]
    exact narrows_j _ o0 o1 m0 m1 n0 n1 c0 c1 hx hy (by rw [hn]; rfl)
theorem narrows_walk (o a b h k m n c : Int) (o0 : 0 ≤ o) (o1 : o ≤ 255) (a0 : -2147483648 ≤ a) (a1 : a ≤ 2147483647) (b0 : -2147483648 ≤ b) (b1 : b ≤ 2147483647) (h0 : 0 ≤ h) (h1 : h ≤ 255) (k0 : 0 ≤ k) (k1 : k ≤ 255) (m0 : 0 ≤ m) (m1 : m ≤ 4294967295) (n0 : 0 ≤ n) (n1 : n ≤ 4294967295) (c0 : -2147483648 ≤ c) (c1 : c ≤ 2147483647) (w : World) (hT : TabOK w) :
    Calls Tryd.prog 4 #[.int .u8 o, .int .i32 a, .int .i32 b, .agg #[.int .u8 h, .int .u8 k], .int .u32 m, .int .u32 n, .int .i32 c] w fun e w' => e = .returned (.bool true) ∧ Below w.heap.size w w' :=
  timeboundlaw08_CongruenceNarrows.calls 5 o a b h k m n c true w (narrows_pure o0 o1 a0 a1 b0 b1 h0 h1 k0 k1 m0 m1 n0 n1 c0 c1) hT
end Go.Proofs.YtaphfmbloappkaaDoorG
