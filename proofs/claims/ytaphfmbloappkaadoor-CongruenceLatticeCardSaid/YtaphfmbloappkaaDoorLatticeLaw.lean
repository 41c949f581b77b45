/-
  CongruenceLattice in plain Lean: what the walk computes is true. Conditions: the kinds of its arguments; for the walk, the library's table in its variable.
-/
import Derived.Test.YtaphfmbloappkaaDoorEvalB
import Derived.Test.YtaphfmbloappkaaDoorPAllx10
namespace Go.Proofs.YtaphfmbloappkaaDoorG
open Go.RowKit Go.Proofs.YtaphfmbloappkaaDoor PAll
set_option linter.unusedVariables false

theorem meet_val {x y : El} (hx : okE x) (hy : okE y) (k : Nat) : congruence_Meet.f (k + 1) (val x).1 (val x).2 (val y).1 (val y).2 = some (val (meetE x y)) := by
  unfold congruence_Meet.f congruence_None.f meetE
  rw [fix_val hx, fix_val hy]
  simp only [Option.bind_some]
  rw [leq_val hx hy, leq_val hy hx]
  simp only [Option.bind_some]
  cases leE x y <;> cases leE y x <;> rfl
theorem lattice_t {x y : El} (hx : okE x) (hy : okE y) :
    ((congruence_Join.f 4 (val y).1 (val y).2 (val x).1 (val x).2).bind fun b => (if (b.1 == (val (joinE x y)).1 && (b.2 == (val (joinE x y)).2)) = true then ((congruence_Leq.f 4 (val x).1 (val x).2 (val x).1 (val x).2).bind fun t => (if t = true then ((timeboundlaw08_awake.f 4).bind fun u => (some u)) else (none))) else (none))) = some true := by
  rw [join_val hy hx 3]
  simp only [Option.bind_some]
  rw [join_comm hy hx, if_pos (by rw [beq_pair]), leq_val hx hx 3, le_refl]
  simp only [Option.bind_some, if_true]
  rw [awake_val 0]
  rfl
theorem lattice_j1 {x y : El} (n : Int) (hx : okE x) (hy : okE y) :
    timeboundlaw08_CongruenceLattice.j1 5 n (val x).1 (val x).2 (val y).1 (val y).2 (val (joinE x y)).1 (val (joinE x y)).2 (val (meetE x y)).1 (val (meetE x y)).2 = some true := by
  simp only [timeboundlaw08_CongruenceLattice.j1]
  have hm := has_meet x y n
  rw [has_val hx n 3, has_val hy n 3, has_val (meet_ok hx hy) n 3]
  simp only [Option.bind_some]
  cases h1 : hasE x n
  · rw [h1, Bool.false_and] at hm
    rw [if_neg (by decide), ← hm, if_pos (by rfl)]
    exact lattice_t hx hy
  · rw [h1, Bool.true_and] at hm
    rw [if_pos rfl, hm, if_pos (by simp)]
    exact lattice_t hx hy
theorem lattice_j0 {x y : El} {n : Int} (hx : okE x) (hy : okE y) (n0 : -2147483648 ≤ n) (n1 : n ≤ 2147483647) :
    timeboundlaw08_CongruenceLattice.j0 6 n false (val x).1 (val x).2 (val y).1 (val y).2 (val (joinE x y)).1 (val (joinE x y)).2 (val (meetE x y)).1 (val (meetE x y)).2 = some true := by
  simp only [timeboundlaw08_CongruenceLattice.j0]
  rw [if_neg (by decide)]
  by_cases h : (val x).1 ≥ 0
  · rw [if_pos h]
    rcases x with _ | ⟨b, r⟩
    · exact absurd h (by decide)
    · obtain ⟨i, _, _, im⟩ := member_val (b := b) (r := r) hx (n := n % 4294967296) (by omega) (by omega)
      rw [show timeboundlaw08_member.f (val (some (b, r))).1 (val (some (b, r))).2 (n % 4294967296) = some i from im]
      simp only [Option.bind_some]
      exact lattice_j1 i hx hy
  · rw [if_neg h]
    exact lattice_j1 _ hx hy
theorem lattice_pure {a b c h k l n : Int} (a0 : -2147483648 ≤ a) (a1 : a ≤ 2147483647) (b0 : -2147483648 ≤ b) (b1 : b ≤ 2147483647) (c0 : -2147483648 ≤ c) (c1 : c ≤ 2147483647) (h0 : 0 ≤ h) (h1 : h ≤ 255) (k0 : 0 ≤ k) (k1 : k ≤ 255) (l0 : 0 ≤ l) (l1 : l ≤ 255) (n0 : -2147483648 ≤ n) (n1 : n ≤ 2147483647) :
    timeboundlaw08_CongruenceLattice.f 6 a b c h k l n = some true := by
  obtain ⟨x, hx, ex⟩ := of_val a0 a1 h0 h1
  obtain ⟨y, hy, ey⟩ := of_val b0 b1 k0 k1
  obtain ⟨z, hz, ez⟩ := of_val c0 c1 l0 l1
  unfold timeboundlaw08_CongruenceLattice.f
  rw [ex, ey, ez]
  simp only [Option.bind_some]
  have jo := join_ok hx hy
  have mo := meet_ok hx hy
  rw [join_val hx hy 5, meet_val hx hy 5]
  simp only [Option.bind_some]
  rw [leq_val hx jo 5, leq_val hy jo 5, leq_val mo hx 5, leq_val mo hy 5, leq_val hx hz 5, leq_val hy hz 5, leq_val jo hz 5, join_l, join_r, meet_l, meet_r]
  simp only [Option.bind_some, if_true]
  cases h1 : leE x z
  · rw [if_neg (by decide)]; exact lattice_j0 hx hy n0 n1
  · rw [if_pos rfl]
    cases h2 : leE y z
    · rw [if_neg (by decide)]; exact lattice_j0 hx hy n0 n1
    · rw [if_pos rfl, join_least hx hy hz h1 h2]; exact lattice_j0 hx hy n0 n1
theorem lattice_walk (a b c h k l n : Int) (a0 : -2147483648 ≤ a) (a1 : a ≤ 2147483647) (b0 : -2147483648 ≤ b) (b1 : b ≤ 2147483647) (c0 : -2147483648 ≤ c) (c1 : c ≤ 2147483647) (h0 : 0 ≤ h) (h1 : h ≤ 255) (k0 : 0 ≤ k) (k1 : k ≤ 255) (l0 : 0 ≤ l) (l1 : l ≤ 255) (n0 : -2147483648 ≤ n) (n1 : n ≤ 2147483647) (w : World) (hT : TabOK w) :
    Calls Tryd.prog 7 #[.int .i32 a, .int .i32 b, .int .i32 c, .agg #[.int .u8 h, .int .u8 k, .int .u8 l], .int .i32 n] w fun e w' => e = .returned (.bool true) ∧ Below w.heap.size w w' :=
  timeboundlaw08_CongruenceLattice.calls 6 a b c h k l n true w (lattice_pure a0 a1 b0 b1 c0 c1 h0 h1 k0 k1 l0 l1 n0 n1) hT
end Go.Proofs.YtaphfmbloappkaaDoorG
