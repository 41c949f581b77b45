/-
  The walks of the word layer: each function of word, of its reference and of the law's helpers does what the plain 'wdo' says. Conditions: an operator from 1 to 14 where it says so; every number.
-/
import Derived.Test.YtaphfmbloappkaaDoorWord
import Derived.Test.YtaphfmbloappkaaDoorRows
import Derived.WalkKit
import Derived.WalkSpells
import Derived.WalkLawsBesides
import Derived.RowKit3
import Derived.KernelRfl
import Derived.Laws.EntriesVeiled
import Derived.Deep.RegionHeld3
import Derived.Shelf.Abstract
import Derived.Lib.Hide
namespace Go.Proofs.YtaphfmbloappkaaDoor
open Go.RowKit
set_option maxHeartbeats 400000

theorem ret_int {k : IntKind} {a b : Int} (h : a = b) : Ending.returned (.int k a) = .returned (.int k b) := by rw [h]
theorem ret_bool {a b : Bool} (h : a = b) : Ending.returned (.bool a) = .returned (.bool b) := by rw [h]
theorem ret_two {a b : Int} (h : a = b) : Ending.returned (.tuple #[.int .i64 a, .int .i64 0]) = .returned (.tuple #[.int .i64 b, .int .i64 0]) := by rw [h]
theorem w_mod (a : Int) : wrap64 (wrap32 (a % 4294967296)) = wrap32 a := by unfold wrap64 wrap32; omega
theorem w_mod2 (a : Int) : wrap64 (wrap32 (a % 18446744073709551616 % 4294967296)) = wrap32 a := by unfold wrap64 wrap32; omega
theorem grown_trans {a b c : World} (h : Grown a b) (h' : Grown b c) : Grown a c :=
  ⟨World.keptBut_trans h.1 h'.1, fun x => (h'.2.1 x).trans (h.2.1 x), Nat.le_trans h.2.2 h'.2.2⟩

theorem wrap_any (a : Int) (w : World) :
    Calls Tryd.prog 31 #[.int .i64 a] w fun e w' => e = .returned (.int .i64 (wrap32 a)) ∧ w = w' := by
  go_enter Tryd.func31, Tryd.ntmps31
  go_wp2
  go_ret
  exact ⟨ret_int (w_mod a), rfl⟩
theorem rwrap_any (a : Int) (w : World) :
    Calls Tryd.prog 28 #[.int .i64 a] w fun e w' => e = .returned (.int .i64 (wrap32 a)) ∧ w = w' := by
  go_enter Tryd.func28, Tryd.ntmps28
  go_wp2
  go_ret
  exact ⟨ret_int (by first | exact w_mod2 a | exact w_mod a), rfl⟩
def knownB (a : Int) : Bool := decide (1 ≤ a ∧ a ≤ 14)
theorem known_any (a : Int) (w : World) :
    Calls Tryd.prog 40 #[.int .i64 a] w fun e w' => e = .returned (.bool (knownB a)) ∧ w = w' := by
  by_cases h1 : 1 ≤ a
  · by_cases h2 : a ≤ 14
    · have e : knownB a = true := decide_eq_true ⟨h1, h2⟩
      go_enter Tryd.func40, Tryd.ntmps40; go_wp2; go_ret; exact ⟨by first | exact ret_bool e.symm | rfl, rfl⟩
    · have e : knownB a = false := decide_eq_false (fun h => h2 h.2)
      go_enter Tryd.func40, Tryd.ntmps40; go_wp2; go_ret; exact ⟨by first | exact ret_bool e.symm | rfl, rfl⟩
  · have e : knownB a = false := decide_eq_false (fun h => h1 h.1)
    go_enter Tryd.func40, Tryd.ntmps40; go_wp2; go_ret; exact ⟨by first | exact ret_bool e.symm | rfl, rfl⟩
/-! ### The array of operators -/
def opsCells : Array Value := #[Value.func (Fn.func 46) #[] #[], Value.func (Fn.func 47) #[] #[], Value.func (Fn.func 48) #[] #[],
  Value.func (Fn.func 49) #[] #[], Value.func (Fn.func 50) #[] #[], Value.func (Fn.func 51) #[] #[],
  Value.func (Fn.func 52) #[] #[], Value.func (Fn.func 53) #[] #[], Value.func (Fn.func 54) #[] #[],
  Value.func (Fn.func 55) #[] #[], Value.func (Fn.func 56) #[] #[], Value.func (Fn.func 58) #[] #[],
  Value.func (Fn.func 59) #[] #[], Value.func (Fn.func 60) #[] #[]]
def opsVal : Value := .agg opsCells
def opsObj : Obj := .cells opsCells 53
theorem ops_any (w : World) :
    Calls Tryd.prog 41 #[] w fun e w' => e = .returned opsVal ∧ w.alloc opsObj = w' := by
  go_enter Tryd.func41, Tryd.ntmps41
  go_wp2
  simp [bodyPost, results, Tryd.results41, go_sem, opsVal, opsObj, opsCells]

/-! ### The operators, at words -/
def quoI (a b : Int) : Int := if b = 0 then 0 else wrap64 (a.tdiv b)
def remI (a b : Int) : Int := if b = 0 then 0 else a.tmod b
def ltI (a b : Int) : Int := if a < b then 1 else 0
def leI (a b : Int) : Int := if a ≤ b then 1 else 0
def eqI (a b : Int) : Int := if a = b then 1 else 0
def neI (a b : Int) : Int := if a = b then 0 else 1
section
variable (a b : Int) (ha0 : -2147483648 ≤ a) (ha1 : a ≤ 2147483647) (hb0 : -2147483648 ≤ b) (hb1 : b ≤ 2147483647) (w : World)
include ha0 ha1 hb0 hb1
theorem f21 : Calls Tryd.prog 46 #[.int .i64 a, .int .i64 b] w fun e w' => e = .returned (.int .i64 (a + b)) ∧ w = w' := by
  go_enter Tryd.func46, Tryd.ntmps46; go_wp2; go_ret; exact ⟨rfl, rfl⟩
theorem f22 : Calls Tryd.prog 47 #[.int .i64 a, .int .i64 b] w fun e w' => e = .returned (.int .i64 (a - b)) ∧ w = w' := by
  go_enter Tryd.func47, Tryd.ntmps47; go_wp2; go_ret; exact ⟨rfl, rfl⟩
omit ha0 ha1 hb0 hb1 in
theorem f23 : Calls Tryd.prog 48 #[.int .i64 a, .int .i64 b] w fun e w' => e = .returned (.int .i64 (wrap64 (a * b))) ∧ w = w' := by
  go_enter Tryd.func48, Tryd.ntmps48; go_wp2; go_ret; exact ⟨rfl, rfl⟩
omit ha0 ha1 hb0 hb1 in
theorem f24 : Calls Tryd.prog 49 #[.int .i64 a, .int .i64 b] w fun e w' => e = .returned (.int .i64 (quoI a b)) ∧ w = w' := by
  by_cases h : b = 0
  · subst h
    have e : quoI a 0 = 0 := rfl
    go_enter Tryd.func49, Tryd.ntmps49; go_wp2; go_ret; exact ⟨by first | exact ret_int e.symm | rfl, rfl⟩
  · have hb : (b == 0) = false := by simpa using h
    have e : quoI a b = wrap64 (a.tdiv b) := if_neg h
    go_enter Tryd.func49, Tryd.ntmps49; go_wp2; go_ret; exact ⟨by first | exact ret_int e.symm | rfl, rfl⟩
omit ha0 ha1 hb0 hb1 in
theorem f25 : Calls Tryd.prog 50 #[.int .i64 a, .int .i64 b] w fun e w' => e = .returned (.int .i64 (remI a b)) ∧ w = w' := by
  by_cases h : b = 0
  · subst h
    have e : remI a 0 = 0 := rfl
    go_enter Tryd.func50, Tryd.ntmps50; go_wp2; go_ret; exact ⟨by first | exact ret_int e.symm | rfl, rfl⟩
  · have hb : (b == 0) = false := by simpa using h
    have e : remI a b = a.tmod b := if_neg h
    go_enter Tryd.func50, Tryd.ntmps50; go_wp2; go_ret; exact ⟨by first | exact ret_int e.symm | rfl, rfl⟩
omit ha0 ha1 hb0 hb1 in
theorem f26 : Calls Tryd.prog 51 #[.int .i64 a, .int .i64 b] w fun e w' => e = .returned (.int .i64 (bits .and .i64 a b)) ∧ w = w' := by
  go_enter Tryd.func51, Tryd.ntmps51; go_wp2; go_ret; exact ⟨rfl, rfl⟩
omit ha0 ha1 hb0 hb1 in
theorem f27 : Calls Tryd.prog 52 #[.int .i64 a, .int .i64 b] w fun e w' => e = .returned (.int .i64 (bits .or .i64 a b)) ∧ w = w' := by
  go_enter Tryd.func52, Tryd.ntmps52; go_wp2; go_ret; exact ⟨rfl, rfl⟩
omit ha0 ha1 hb0 hb1 in
theorem f28 : Calls Tryd.prog 53 #[.int .i64 a, .int .i64 b] w fun e w' => e = .returned (.int .i64 (bits .xor .i64 a b)) ∧ w = w' := by
  go_enter Tryd.func53, Tryd.ntmps53; go_wp2; go_ret; exact ⟨rfl, rfl⟩
end
theorem shl_run (k : IntKind) (a b : Int) (w : World) : (Op.shift .shl .i64 a k (b % 32)).run Tryd.prog w = .ok (.int .i64 (wrap64 (a * 2 ^ (b % 32).toNat))) w := by
  rw [shift_shl .i64 k a (b % 32) (by omega) (by show b % 32 ≤ ((64 : Nat) : Int); omega), IntWalk.i64_left]; rfl
theorem shr_run (k : IntKind) (a b : Int) (w : World) : (Op.shift .shr .i64 a k (b % 32)).run Tryd.prog w = .ok (.int .i64 (a / 2 ^ (b % 32).toNat)) w := by
  rw [shift_shr .i64 k a (b % 32) (by omega) (by show b % 32 ≤ ((64 : Nat) : Int); omega)]; rfl
theorem f29 (a b : Int) (w : World) : Calls Tryd.prog 54 #[.int .i64 a, .int .i64 b] w fun e w' => e = .returned (.int .i64 (wrap64 (a * 2 ^ (b % 32).toNat))) ∧ w = w' := by
  have h1 := and31 b
  have h2 := shl_run .i64 a b
  go_enter Tryd.func54, Tryd.ntmps54; go_wp2; go_ret; exact ⟨rfl, rfl⟩
theorem f30 (a b : Int) (w : World) : Calls Tryd.prog 55 #[.int .i64 a, .int .i64 b] w fun e w' => e = .returned (.int .i64 (a / 2 ^ (b % 32).toNat)) ∧ w = w' := by
  have h1 := and31 b
  have h2 := shr_run .i64 a b
  go_enter Tryd.func55, Tryd.ntmps55; go_wp2; go_ret; exact ⟨rfl, rfl⟩
theorem f31 (a b : Int) (w : World) : Calls Tryd.prog 56 #[.int .i64 a, .int .i64 b] w fun e w' => e = .returned (.int .i64 (ltI a b)) ∧ w = w' := by
  by_cases h : a < b
  · have e : ltI a b = 1 := if_pos h
    go_enter Tryd.func56, Tryd.ntmps56; go_wp2; go_ret; exact ⟨by first | exact ret_int e.symm | rfl, rfl⟩
  · have e : ltI a b = 0 := if_neg h
    go_enter Tryd.func56, Tryd.ntmps56; go_wp2; go_ret; exact ⟨by first | exact ret_int e.symm | rfl, rfl⟩
theorem f33 (a b : Int) (w : World) : Calls Tryd.prog 58 #[.int .i64 a, .int .i64 b] w fun e w' => e = .returned (.int .i64 (leI a b)) ∧ w = w' := by
  by_cases h : a ≤ b
  · have e : leI a b = 1 := if_pos h
    go_enter Tryd.func58, Tryd.ntmps58; go_wp2; go_ret; exact ⟨by first | exact ret_int e.symm | rfl, rfl⟩
  · have e : leI a b = 0 := if_neg h
    go_enter Tryd.func58, Tryd.ntmps58; go_wp2; go_ret; exact ⟨by first | exact ret_int e.symm | rfl, rfl⟩
theorem f34 (a b : Int) (w : World) : Calls Tryd.prog 59 #[.int .i64 a, .int .i64 b] w fun e w' => e = .returned (.int .i64 (eqI a b)) ∧ w = w' := by
  by_cases h : a = b
  · have e : eqI a b = 1 := if_pos h
    have hb : (a == b) = true := by simpa using h
    clear h
    go_enter Tryd.func59, Tryd.ntmps59; go_wp2; go_ret; exact ⟨by first | exact ret_int e.symm | rfl, rfl⟩
  · have e : eqI a b = 0 := if_neg h
    have hb : (a == b) = false := by simpa using h
    clear h
    go_enter Tryd.func59, Tryd.ntmps59; go_wp2; go_ret; exact ⟨by first | exact ret_int e.symm | rfl, rfl⟩
theorem f35 (a b : Int) (w : World) : Calls Tryd.prog 60 #[.int .i64 a, .int .i64 b] w fun e w' => e = .returned (.int .i64 (neI a b)) ∧ w = w' := by
  by_cases h : a = b
  · have e : neI a b = 0 := if_pos h
    have hb : (a == b) = true := by simpa using h
    have hc : (a != b) = false := by simpa using h
    clear h
    go_enter Tryd.func60, Tryd.ntmps60; go_wp2; go_ret; exact ⟨by first | exact ret_int e.symm | rfl, rfl⟩
  · have e : neI a b = 1 := if_neg h
    have hb : (a == b) = false := by simpa using h
    have hc : (a != b) = true := by simpa using h
    clear h
    go_enter Tryd.func60, Tryd.ntmps60; go_wp2; go_ret; exact ⟨by first | exact ret_int e.symm | rfl, rfl⟩

end Go.Proofs.YtaphfmbloappkaaDoor
