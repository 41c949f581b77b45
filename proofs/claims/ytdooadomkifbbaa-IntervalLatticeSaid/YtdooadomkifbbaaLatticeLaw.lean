/-
  IntervalLattice: what the walk asks for, at three valid intervals. Conditions: the kinds of its arguments.
-/
import Derived.Test.YtdooadomkifbbaaWalksZ
import Derived.Test.YtdooadomkifbbaaLawA
import Derived.Test.YtdooadomkifbbaaLatPlain
namespace Go.Proofs.YtdooadomkifbbaaG
open Go.RowKit Go.Proofs.Ytdooadomkifbbaa
set_option linter.unusedVariables false

theorem leq_fix {a b c d : Int} (f : Fixed a b) (g : Fixed c d) : leqF a b c d = leq0 a b c d := by unfold leqF; rw [fix_of f, fix_of g]
theorem join_fix {a b c d : Int} (f : Fixed a b) (g : Fixed c d) : joinF a b c d = join0 a b c d := by unfold joinF; rw [fix_of f, fix_of g]
theorem meet_fix {a b c d : Int} (f : Fixed a b) (g : Fixed c d) : meetF a b c d = meet0 a b c d := by unfold meetF; rw [fix_of f, fix_of g]
theorem lattice_all (a b c d e g : Int) (h k m : Int) (a0 : -2147483648 ≤ a) (a1 : a ≤ 2147483647) (b0 : -2147483648 ≤ b) (b1 : b ≤ 2147483647) (c0 : -2147483648 ≤ c) (c1 : c ≤ 2147483647) (d0 : -2147483648 ≤ d) (d1 : d ≤ 2147483647) (e0 : -2147483648 ≤ e) (e1 : e ≤ 2147483647) (g0 : -2147483648 ≤ g) (g1 : g ≤ 2147483647) (h0 : 0 ≤ h) (h1 : h ≤ 255) (k0 : 0 ≤ k) (k1 : k ≤ 255) (m0 : 0 ≤ m) (m1 : m ≤ 255) (w : World) :
    Calls Try.prog 8 #[.int .i32 a, .int .i32 b, .int .i32 c, .int .i32 d, .int .i32 e, .int .i32 g, .agg #[.int .u8 h, .int .u8 k, .int .u8 m]] w fun e w' => e = .returned (.bool true) ∧ Below w.heap.size w w' := by
  have fX : FixQ (ofF a b h) := of_fixed h a0 a1 b0 b1
  have fY : FixQ (ofF c d k) := of_fixed k c0 c1 d0 d1
  have fZ : FixQ (ofF e g m) := of_fixed m e0 e1 g0 g1
  have oX := of_val a0 a1 b0 b1 h0 h1
  have oY := of_val c0 c1 d0 d1 k0 k1
  have oZ := of_val e0 e1 g0 g1 m0 m1
  generalize ofF a b h = X at *
  generalize ofF c d k = Y at *
  generalize ofF e g m = Z at *
  have jv := join_val fX fY
  have mv := meet_val fX fY
  have fJ : Fixed (join0 X.1 X.2 Y.1 Y.2).1 (join0 X.1 X.2 Y.1 Y.2).2 := join_fixed fX fY
  have fM : Fixed (meet0 X.1 X.2 Y.1 Y.2).1 (meet0 X.1 X.2 Y.1 Y.2).2 := meet_fixed fX fY
  have jl := join_l fX fY
  have jr := join_r fX fY
  have ml := meet_l fX fY
  have mr := meet_r fX fY
  have jc := join_comm fX fY
  have mc := meet_comm fX fY
  have le := fun q => join_least fX fY (u := Z.1) (v := Z.2) fZ q
  have ge := fun q => meet_greatest fX fY (u := Z.1) (v := Z.2) fZ q
  have an := fun q q' => leq_antisym fX fY q q'
  have fN : Fixed 1 0 := Or.inl ⟨rfl, rfl⟩
  have fT : Fixed (-2147483648) 2147483647 := Or.inr ⟨by decide, by decide, by decide⟩
  exact PLattice.lattice_walk a b c d e g h k m X.1 X.2 Y.1 Y.2 Z.1 Z.2 (join0 X.1 X.2 Y.1 Y.2).1 (join0 X.1 X.2 Y.1 Y.2).2 (meet0 X.1 X.2 Y.1 Y.2).1 (meet0 X.1 X.2 Y.1 Y.2).2 w
    oX oY oZ jv mv
    (by rw [leq_fix fX fJ]; exact jl)
    (by rw [leq_fix fY fJ]; exact jr)
    (by rw [leq_fix fM fX]; exact ml)
    (by rw [leq_fix fM fY]; exact mr)
    (by rw [leq_fix fN fX]; exact leq_none _ _)
    (by rw [leq_fix fX fT]; exact leq_top fX)
    (by rw [leq_fix fX fX]; exact leq_refl fX)
    (by rw [join_fix fX fY])
    (by rw [join_fix fY fX, ← jc])
    (by rw [meet_fix fX fY])
    (by rw [meet_fix fY fX, ← mc])
    (by rw [leq_fix fX fZ, leq_fix fY fZ, leq_fix fJ fZ]; intro q; rw [le q]; simp)
    (by rw [leq_fix fZ fX, leq_fix fZ fY, leq_fix fZ fM]; intro q; rw [ge q]; simp)
    (by rw [leq_fix fX fY, leq_fix fY fX]; intro q q'; obtain ⟨r1, r2⟩ := an q q'; rw [r1, r2]; simp [eqI])
end Go.Proofs.YtdooadomkifbbaaG
