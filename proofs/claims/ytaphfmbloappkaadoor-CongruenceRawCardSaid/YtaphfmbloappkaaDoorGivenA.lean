/-
  The contracts that were proved by hand, in the form that the printed walks use: a function that may give nothing, and 'the call returns what it gives'. Condition, where the library's table is read: it is in its variable.
-/
import Derived.Test.YtaphfmbloappkaaDoorZeros
namespace Go.Proofs.YtaphfmbloappkaaDoorG
open Go.RowKit Go.Proofs.YtaphfmbloappkaaDoor

/-- A guard that reads what was passed over. -/
theorem yl_undef {α : Type} (f : Bool → α) (g : Option Value → α) : yielded.match_1 (fun _ => α) (some undef) f g = g (some undef) := rfl
def word_Do.f (op a b : Int) : Option (Int × Int) := if 1 ≤ op ∧ op ≤ 14 then some (wdo op a b, 0) else some (0, 6)
theorem word_Do.calls (op a b r1 r2 : Int) (w : World) (h : word_Do.f op a b = some (r1, r2)) :
    Calls Tryd.prog 25 #[.int .i64 op, .int .i64 a, .int .i64 b] w fun e w' => e = .returned (.tuple #[.int .i64 r1, .int .i64 r2]) ∧ Below w.heap.size w w' := by
  unfold word_Do.f at h
  split at h
  · rename_i c
    simp only [Option.some.injEq, Prod.mk.injEq] at h
    obtain ⟨rfl, rfl⟩ := h
    exact do_word op a b c.1 c.2 w
  · rename_i c
    simp only [Option.some.injEq, Prod.mk.injEq] at h
    obtain ⟨rfl, rfl⟩ := h
    exact do_bad op a b c w
def timeboundref01_Do.f (op a b : Int) : Option (Int × Int) := if 1 ≤ op ∧ op ≤ 14 then some (wdo op a b, 0) else some (0, 6)
theorem timeboundref01_Do.calls (op a b r1 r2 : Int) (w : World) (h : timeboundref01_Do.f op a b = some (r1, r2)) :
    Calls Tryd.prog 13 #[.int .i64 op, .int .i64 a, .int .i64 b] w fun e w' => e = .returned (.tuple #[.int .i64 r1, .int .i64 r2]) ∧ Below w.heap.size w w' := by
  unfold timeboundref01_Do.f at h
  split at h
  · rename_i c
    simp only [Option.some.injEq, Prod.mk.injEq] at h
    obtain ⟨rfl, rfl⟩ := h
    refine (rdo_word op a b c.1 c.2 w).mono ?_
    rintro e w' ⟨rfl, rfl⟩
    exact ⟨rfl, Below.refl _ _⟩
  · rename_i c
    simp only [Option.some.injEq, Prod.mk.injEq] at h
    obtain ⟨rfl, rfl⟩ := h
    refine (rdo_bad op a b c w).mono ?_
    rintro e w' ⟨rfl, rfl⟩
    exact ⟨rfl, Below.refl _ _⟩
def congruence_zeros.f (n : Int) : Option Int := some (zerosI n)
theorem congruence_zeros.calls (n r : Int) (w : World) (h : congruence_zeros.f n = some r) (hT : TabOK w) :
    Calls Tryd.prog 39 #[.int .i64 n] w fun e w' => e = .returned (.int .i64 r) ∧ Below w.heap.size w w' := by
  have e := Option.some.inj h
  refine (zeros_any n w hT).mono ?_
  rintro e' w' ⟨rfl, rfl⟩
  exact ⟨by rw [e], Below.refl _ _⟩
end Go.Proofs.YtaphfmbloappkaaDoorG
