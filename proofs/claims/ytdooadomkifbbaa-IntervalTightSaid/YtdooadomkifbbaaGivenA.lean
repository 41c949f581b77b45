/-
  The contracts that were proved by hand, in the form that the printed walks use: a function that may give nothing, and 'the call returns what it gives'. No condition.
-/
import Derived.Test.YtdooadomkifbbaaWalksV
import Derived.Test.YtdooadomkifbbaaWalksP
import Derived.Test.YtdooadomkifbbaaWalksT
import Derived.Test.YtdooadomkifbbaaWalksR
import Derived.Test.YtdooadomkifbbaaWalksC
namespace Go.Proofs.YtdooadomkifbbaaG
open Go.RowKit Go.Proofs.Ytdooadomkifbbaa

/-- A guard that reads what was passed over. -/
theorem yl_undef {α : Type} (f : Bool → α) (g : Option Value → α) : yielded.match_1 (fun _ => α) (some undef) f g = g (some undef) := rfl
theorem fix_eta (a b : Int) : fixP a b = ((fixP a b).1, (fixP a b).2) := rfl
def interval_All.f : Option (Int × Int) := some (-2147483648, 2147483647)
theorem interval_All.calls (r1 r2 : Int) (w : World) (h : interval_All.f = some (r1, r2)) :
    Calls Try.prog 10 #[] w fun e w' => e = .returned (.agg #[.int .i64 r1, .int .i64 r2]) ∧ Below w.heap.size w w' := by
  simp only [interval_All.f, Option.some.injEq, Prod.mk.injEq] at h
  obtain ⟨rfl, rfl⟩ := h
  exact all_any w
def interval_None.f : Option (Int × Int) := some (1, 0)
theorem interval_None.calls (r1 r2 : Int) (w : World) (h : interval_None.f = some (r1, r2)) :
    Calls Try.prog 12 #[] w fun e w' => e = .returned (.agg #[.int .i64 r1, .int .i64 r2]) ∧ Below w.heap.size w w' := by
  simp only [interval_None.f, Option.some.injEq, Prod.mk.injEq] at h
  obtain ⟨rfl, rfl⟩ := h
  exact none_any w
def timeboundlaw07_awake.f : Option Bool := some true
theorem timeboundlaw07_awake.calls (r : Bool) (w : World) (h : timeboundlaw07_awake.f = some r) :
    Calls Try.prog 14 #[] w fun e w' => e = .returned (.bool r) ∧ Below w.heap.size w w' := by
  simp only [timeboundlaw07_awake.f, Option.some.injEq] at h
  obtain rfl := h
  exact awakeL_any w
def timeboundlaw07_of.f (a b h : Int) : Option (Int × Int) := if (-2147483648 ≤ a ∧ a ≤ 2147483647) ∧ (-2147483648 ≤ b ∧ b ≤ 2147483647) ∧ 0 ≤ h ∧ h ≤ 255 then some (ofF a b h) else none
theorem timeboundlaw07_of.calls (a b h r1 r2 : Int) (w : World) (hf : timeboundlaw07_of.f a b h = some (r1, r2)) :
    Calls Try.prog 15 #[.int .i32 a, .int .i32 b, .int .u8 h] w fun e w' => e = .returned (.agg #[.int .i64 r1, .int .i64 r2]) ∧ Below w.heap.size w w' := by
  unfold timeboundlaw07_of.f at hf
  split at hf
  · rename_i c
    have e := Option.some.inj hf
    have := of_any a b h c.1.1 c.1.2 c.2.1.1 c.2.1.2 c.2.2.1 c.2.2.2 w
    rwa [e] at this
  · cases hf
def timeboundref01_Do.f (op a b : Int) : Option (Int × Int) := if 1 ≤ op ∧ op ≤ 14 then some (wdo op a b, 0) else none
theorem timeboundref01_Do.calls (op a b r1 r2 : Int) (w : World) (h : timeboundref01_Do.f op a b = some (r1, r2)) :
    Calls Try.prog 17 #[.int .i64 op, .int .i64 a, .int .i64 b] w fun e w' => e = .returned (.tuple #[.int .i64 r1, .int .i64 r2]) ∧ Below w.heap.size w w' := by
  unfold timeboundref01_Do.f at h
  split at h
  · rename_i c
    simp only [Option.some.injEq, Prod.mk.injEq] at h
    obtain ⟨rfl, rfl⟩ := h
    refine (rdo_word op a b c.1 c.2 w).mono ?_
    rintro e w' ⟨rfl, rfl⟩
    exact ⟨rfl, Below.refl _ _⟩
  · cases h
def timeboundlaw07_inside.f (p q n : Int) : Option Int := if (-2147483648 ≤ p ∧ p ≤ q ∧ q ≤ 2147483647) ∧ 0 ≤ n ∧ n ≤ 4294967295 then some (p + n % (q - p + 1)) else none
theorem timeboundlaw07_inside.calls (p q n r : Int) (w : World) (h : timeboundlaw07_inside.f p q n = some r) :
    Calls Try.prog 18 #[.agg #[.int .i64 p, .int .i64 q], .int .u32 n] w fun e w' => e = .returned (.int .i64 r) ∧ Below w.heap.size w w' := by
  unfold timeboundlaw07_inside.f at h
  split at h
  · rename_i c
    simp only [Option.some.injEq] at h
    obtain rfl := h
    exact inside_any p q n c.1.1 c.1.2.1 c.1.2.2 c.2.1 c.2.2 w
  · cases h
def interval_Has.f (a b n : Int) : Option Bool := some (hasF a b n)
theorem interval_Has.calls (a b n : Int) (r : Bool) (w : World) (h : interval_Has.f a b n = some r) :
    Calls Try.prog 19 #[.agg #[.int .i64 a, .int .i64 b], .int .i64 n] w fun e w' => e = .returned (.bool r) ∧ Below w.heap.size w w' := by
  have e := Option.some.inj h
  have := has_as n (fix_eta a b) w
  unfold hasF at e
  rwa [e] at this
def interval_Valid.f (a b : Int) : Option Bool := some (valB a b)
theorem interval_Valid.calls (a b : Int) (r : Bool) (w : World) (h : interval_Valid.f a b = some r) :
    Calls Try.prog 20 #[.agg #[.int .i64 a, .int .i64 b]] w fun e w' => e = .returned (.bool r) ∧ Below w.heap.size w w' := by
  have e := Option.some.inj h
  have := valid_any a b w
  rwa [e] at this
def interval_Leq.f (a b c d : Int) : Option Bool := some (leqF a b c d)
theorem interval_Leq.calls (a b c d : Int) (r : Bool) (w : World) (h : interval_Leq.f a b c d = some r) :
    Calls Try.prog 21 #[.agg #[.int .i64 a, .int .i64 b], .agg #[.int .i64 c, .int .i64 d]] w fun e w' => e = .returned (.bool r) ∧ Below w.heap.size w w' := by
  have e := Option.some.inj h
  have := leq_as (fix_eta a b) (fix_eta c d) w
  unfold leqF at e
  rwa [e] at this
def interval_Join.f (a b c d : Int) : Option (Int × Int) := some (joinF a b c d)
theorem interval_Join.calls (a b c d r1 r2 : Int) (w : World) (h : interval_Join.f a b c d = some (r1, r2)) :
    Calls Try.prog 24 #[.agg #[.int .i64 a, .int .i64 b], .agg #[.int .i64 c, .int .i64 d]] w fun e w' => e = .returned (.agg #[.int .i64 r1, .int .i64 r2]) ∧ Below w.heap.size w w' := by
  have e := Option.some.inj h
  have := join_as (fix_eta a b) (fix_eta c d) w
  unfold joinF at e
  rwa [e] at this
def interval_Meet.f (a b c d : Int) : Option (Int × Int) := some (meetF a b c d)
theorem interval_Meet.calls (a b c d r1 r2 : Int) (w : World) (h : interval_Meet.f a b c d = some (r1, r2)) :
    Calls Try.prog 25 #[.agg #[.int .i64 a, .int .i64 b], .agg #[.int .i64 c, .int .i64 d]] w fun e w' => e = .returned (.agg #[.int .i64 r1, .int .i64 r2]) ∧ Below w.heap.size w w' := by
  have e := Option.some.inj h
  have := meet_as (fix_eta a b) (fix_eta c d) w
  unfold meetF at e
  rwa [e] at this
end Go.Proofs.YtdooadomkifbbaaG
