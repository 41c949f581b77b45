/-
  The walks of the word layer: each function of word, of its reference and of the law's helpers does what the plain 'wdo' says. Conditions: an operator from 1 to 14 where it says so; every number.
-/
import Derived.Test.YtgjgfoggcomhlaaPlain
import Derived.Test.YtgjgfoggcomhlaaRows
import Derived.WalkKit
import Derived.WalkSpells
import Derived.WalkLawsBesides
import Derived.RowKit3
import Derived.KernelRfl
import Derived.Laws.EntriesVeiled
import Derived.Deep.RegionHeld3
import Derived.Shelf.Abstract
import Derived.Lib.Hide
namespace Go.Proofs.Ytgjgfoggcomhlaa
open Go.RowKit
set_option maxHeartbeats 400000

theorem ret_int {k : IntKind} {a b : Int} (h : a = b) : Ending.returned (.int k a) = .returned (.int k b) := by rw [h]
theorem ret_bool {a b : Bool} (h : a = b) : Ending.returned (.bool a) = .returned (.bool b) := by rw [h]
theorem ret_two {a b : Int} (h : a = b) : Ending.returned (.tuple #[.int .i64 a, .int .i64 0]) = .returned (.tuple #[.int .i64 b, .int .i64 0]) := by rw [h]
theorem w_mod (a : Int) : wrap64 (wrap32 (a % 4294967296)) = wrap32 a := by unfold wrap64 wrap32; omega
theorem w_mod2 (a : Int) : wrap64 (wrap32 (a % 18446744073709551616 % 4294967296)) = wrap32 a := by unfold wrap64 wrap32; omega
theorem grown_trans {a b c : World} (h : Grown a b) (h' : Grown b c) : Grown a c :=
  ⟨World.keptBut_trans h.1 h'.1, fun x => (h'.2.1 x).trans (h.2.1 x), Nat.le_trans h.2.2 h'.2.2⟩

theorem wrap_any (a : Int) (w : World) :
    Calls Try.prog 13 #[.int .i64 a] w fun e w' => e = .returned (.int .i64 (wrap32 a)) ∧ w = w' := by
  go_enter Try.func13, Try.ntmps13
  go_wp2
  go_ret
  exact ⟨ret_int (w_mod a), rfl⟩
theorem rwrap_any (a : Int) (w : World) :
    Calls Try.prog 14 #[.int .i64 a] w fun e w' => e = .returned (.int .i64 (wrap32 a)) ∧ w = w' := by
  go_enter Try.func14, Try.ntmps14
  go_wp2
  go_ret
  exact ⟨ret_int (by first | exact w_mod2 a | exact w_mod a), rfl⟩
def knownB (a : Int) : Bool := decide (1 ≤ a ∧ a ≤ 14)
theorem known_any (a : Int) (w : World) :
    Calls Try.prog 15 #[.int .i64 a] w fun e w' => e = .returned (.bool (knownB a)) ∧ w = w' := by
  by_cases h1 : 1 ≤ a
  · by_cases h2 : a ≤ 14
    · have e : knownB a = true := decide_eq_true ⟨h1, h2⟩
      go_enter Try.func15, Try.ntmps15; go_wp2; go_ret; exact ⟨by first | exact ret_bool e.symm | rfl, rfl⟩
    · have e : knownB a = false := decide_eq_false (fun h => h2 h.2)
      go_enter Try.func15, Try.ntmps15; go_wp2; go_ret; exact ⟨by first | exact ret_bool e.symm | rfl, rfl⟩
  · have e : knownB a = false := decide_eq_false (fun h => h1 h.1)
    go_enter Try.func15, Try.ntmps15; go_wp2; go_ret; exact ⟨by first | exact ret_bool e.symm | rfl, rfl⟩
theorem rknown_any (a : Int) (w : World) :
    Calls Try.prog 16 #[.int .i64 a] w fun e w' => e = .returned (.bool (knownB a)) ∧ w = w' := by
  by_cases h1 : 1 ≤ a
  · by_cases h2 : a ≤ 14
    · have e : knownB a = true := decide_eq_true ⟨h1, h2⟩
      go_enter Try.func16, Try.ntmps16; go_wp2; go_ret; exact ⟨by first | exact ret_bool e.symm | rfl, rfl⟩
    · have e : knownB a = false := decide_eq_false (fun h => h2 h.2)
      go_enter Try.func16, Try.ntmps16; go_wp2; go_ret; exact ⟨by first | exact ret_bool e.symm | rfl, rfl⟩
  · have e : knownB a = false := decide_eq_false (fun h => h1 h.1)
    go_enter Try.func16, Try.ntmps16; go_wp2; go_ret; exact ⟨by first | exact ret_bool e.symm | rfl, rfl⟩
def costI (a : Int) : Int := if a = 3 then 1 else if a = 4 then 2 else if a = 5 then 2 else 0
theorem cost_any (a : Int) (w : World) :
    Calls Try.prog 17 #[.int .i64 a] w fun e w' => e = .returned (.int .i64 (costI a)) ∧ w = w' := by
  by_cases h3 : a = 3
  · subst h3; go_enter Try.func17, Try.ntmps17; go_wp2; go_ret; exact ⟨rfl, rfl⟩
  · by_cases h4 : a = 4
    · subst h4; go_enter Try.func17, Try.ntmps17; go_wp2; go_ret; exact ⟨rfl, rfl⟩
    · by_cases h5 : a = 5
      · subst h5; go_enter Try.func17, Try.ntmps17; go_wp2; go_ret; exact ⟨rfl, rfl⟩
      · have b3 : (a == 3) = false := by simpa using h3
        have b4 : (a == 4) = false := by simpa using h4
        have b5 : (a == 5) = false := by simpa using h5
        have e : costI a = 0 := by unfold costI; rw [if_neg h3, if_neg h4, if_neg h5]
        go_enter Try.func17, Try.ntmps17; go_wp2; go_ret; exact ⟨by first | exact ret_int e.symm | rfl, rfl⟩

theorem rcost_any (a : Int) (w : World) :
    Calls Try.prog 18 #[.int .i64 a] w fun e w' => e = .returned (.int .i64 (costI a)) ∧ w = w' := by
  by_cases h3 : a = 3
  · subst h3; go_enter Try.func18, Try.ntmps18; go_wp2; go_ret; exact ⟨rfl, rfl⟩
  · by_cases h4 : a = 4
    · subst h4; go_enter Try.func18, Try.ntmps18; go_wp2; go_ret; exact ⟨rfl, rfl⟩
    · by_cases h5 : a = 5
      · subst h5; go_enter Try.func18, Try.ntmps18; go_wp2; go_ret; exact ⟨rfl, rfl⟩
      · have b3 : (a == 3) = false := by simpa using h3
        have b4 : (a == 4) = false := by simpa using h4
        have b5 : (a == 5) = false := by simpa using h5
        have e : costI a = 0 := by unfold costI; rw [if_neg h3, if_neg h4, if_neg h5]
        go_enter Try.func18, Try.ntmps18; go_wp2; go_ret; exact ⟨by first | exact ret_int e.symm | rfl, rfl⟩

/-! ### The array of operators -/
def opsCells : Array Value := #[Value.func (Fn.func 21) #[] #[], Value.func (Fn.func 22) #[] #[], Value.func (Fn.func 23) #[] #[],
  Value.func (Fn.func 24) #[] #[], Value.func (Fn.func 25) #[] #[], Value.func (Fn.func 26) #[] #[],
  Value.func (Fn.func 27) #[] #[], Value.func (Fn.func 28) #[] #[], Value.func (Fn.func 29) #[] #[],
  Value.func (Fn.func 30) #[] #[], Value.func (Fn.func 31) #[] #[], Value.func (Fn.func 33) #[] #[],
  Value.func (Fn.func 34) #[] #[], Value.func (Fn.func 35) #[] #[]]
def opsVal : Value := .agg opsCells
def opsObj : Obj := .cells opsCells 37
theorem ops_any (w : World) :
    Calls Try.prog 19 #[] w fun e w' => e = .returned opsVal ∧ w.alloc opsObj = w' := by
  go_enter Try.func19, Try.ntmps19
  go_wp2
  simp [bodyPost, results, Try.results19, go_sem, opsVal, opsObj, opsCells]

/-! ### The operators, at words -/
def quoI (a b : Int) : Int := if b = 0 then 0 else wrap64 (a.tdiv b)
def remI (a b : Int) : Int := if b = 0 then 0 else a.tmod b
def ltI (a b : Int) : Int := if a < b then 1 else 0
def leI (a b : Int) : Int := if a ≤ b then 1 else 0
def eqI (a b : Int) : Int := if a = b then 1 else 0
def neI (a b : Int) : Int := if a = b then 0 else 1
section
variable (a b : Int) (ha0 : -2147483648 ≤ a) (ha1 : a ≤ 2147483647) (hb0 : -2147483648 ≤ b) (hb1 : b ≤ 2147483647) (w : World)
include ha0 ha1 hb0 hb1
theorem f21 : Calls Try.prog 21 #[.int .i64 a, .int .i64 b] w fun e w' => e = .returned (.int .i64 (a + b)) ∧ w = w' := by
  go_enter Try.func21, Try.ntmps21; go_wp2; go_ret; exact ⟨rfl, rfl⟩
theorem f22 : Calls Try.prog 22 #[.int .i64 a, .int .i64 b] w fun e w' => e = .returned (.int .i64 (a - b)) ∧ w = w' := by
  go_enter Try.func22, Try.ntmps22; go_wp2; go_ret; exact ⟨rfl, rfl⟩
omit ha0 ha1 hb0 hb1 in
theorem f23 : Calls Try.prog 23 #[.int .i64 a, .int .i64 b] w fun e w' => e = .returned (.int .i64 (wrap64 (a * b))) ∧ w = w' := by
  go_enter Try.func23, Try.ntmps23; go_wp2; go_ret; exact ⟨rfl, rfl⟩
omit ha0 ha1 hb0 hb1 in
theorem f24 : Calls Try.prog 24 #[.int .i64 a, .int .i64 b] w fun e w' => e = .returned (.int .i64 (quoI a b)) ∧ w = w' := by
  by_cases h : b = 0
  · subst h
    have e : quoI a 0 = 0 := rfl
    go_enter Try.func24, Try.ntmps24; go_wp2; go_ret; exact ⟨by first | exact ret_int e.symm | rfl, rfl⟩
  · have hb : (b == 0) = false := by simpa using h
    have e : quoI a b = wrap64 (a.tdiv b) := if_neg h
    go_enter Try.func24, Try.ntmps24; go_wp2; go_ret; exact ⟨by first | exact ret_int e.symm | rfl, rfl⟩
omit ha0 ha1 hb0 hb1 in
theorem f25 : Calls Try.prog 25 #[.int .i64 a, .int .i64 b] w fun e w' => e = .returned (.int .i64 (remI a b)) ∧ w = w' := by
  by_cases h : b = 0
  · subst h
    have e : remI a 0 = 0 := rfl
    go_enter Try.func25, Try.ntmps25; go_wp2; go_ret; exact ⟨by first | exact ret_int e.symm | rfl, rfl⟩
  · have hb : (b == 0) = false := by simpa using h
    have e : remI a b = a.tmod b := if_neg h
    go_enter Try.func25, Try.ntmps25; go_wp2; go_ret; exact ⟨by first | exact ret_int e.symm | rfl, rfl⟩
omit ha0 ha1 hb0 hb1 in
theorem f26 : Calls Try.prog 26 #[.int .i64 a, .int .i64 b] w fun e w' => e = .returned (.int .i64 (bits .and .i64 a b)) ∧ w = w' := by
  go_enter Try.func26, Try.ntmps26; go_wp2; go_ret; exact ⟨rfl, rfl⟩
omit ha0 ha1 hb0 hb1 in
theorem f27 : Calls Try.prog 27 #[.int .i64 a, .int .i64 b] w fun e w' => e = .returned (.int .i64 (bits .or .i64 a b)) ∧ w = w' := by
  go_enter Try.func27, Try.ntmps27; go_wp2; go_ret; exact ⟨rfl, rfl⟩
omit ha0 ha1 hb0 hb1 in
theorem f28 : Calls Try.prog 28 #[.int .i64 a, .int .i64 b] w fun e w' => e = .returned (.int .i64 (bits .xor .i64 a b)) ∧ w = w' := by
  go_enter Try.func28, Try.ntmps28; go_wp2; go_ret; exact ⟨rfl, rfl⟩
end
theorem shl_run (k : IntKind) (a b : Int) (w : World) : (Op.shift .shl .i64 a k (b % 32)).run Try.prog w = .ok (.int .i64 (wrap64 (a * 2 ^ (b % 32).toNat))) w := by
  rw [shift_shl .i64 k a (b % 32) (by omega) (by show b % 32 ≤ ((64 : Nat) : Int); omega), IntWalk.i64_left]; rfl
theorem shr_run (k : IntKind) (a b : Int) (w : World) : (Op.shift .shr .i64 a k (b % 32)).run Try.prog w = .ok (.int .i64 (a / 2 ^ (b % 32).toNat)) w := by
  rw [shift_shr .i64 k a (b % 32) (by omega) (by show b % 32 ≤ ((64 : Nat) : Int); omega)]; rfl
theorem f29 (a b : Int) (w : World) : Calls Try.prog 29 #[.int .i64 a, .int .i64 b] w fun e w' => e = .returned (.int .i64 (wrap64 (a * 2 ^ (b % 32).toNat))) ∧ w = w' := by
  have h1 := and31 b
  have h2 := shl_run .i64 a b
  go_enter Try.func29, Try.ntmps29; go_wp2; go_ret; exact ⟨rfl, rfl⟩
theorem f30 (a b : Int) (w : World) : Calls Try.prog 30 #[.int .i64 a, .int .i64 b] w fun e w' => e = .returned (.int .i64 (a / 2 ^ (b % 32).toNat)) ∧ w = w' := by
  have h1 := and31 b
  have h2 := shr_run .i64 a b
  go_enter Try.func30, Try.ntmps30; go_wp2; go_ret; exact ⟨rfl, rfl⟩
theorem f31 (a b : Int) (w : World) : Calls Try.prog 31 #[.int .i64 a, .int .i64 b] w fun e w' => e = .returned (.int .i64 (ltI a b)) ∧ w = w' := by
  by_cases h : a < b
  · have e : ltI a b = 1 := if_pos h
    go_enter Try.func31, Try.ntmps31; go_wp2; go_ret; exact ⟨by first | exact ret_int e.symm | rfl, rfl⟩
  · have e : ltI a b = 0 := if_neg h
    go_enter Try.func31, Try.ntmps31; go_wp2; go_ret; exact ⟨by first | exact ret_int e.symm | rfl, rfl⟩
theorem f33 (a b : Int) (w : World) : Calls Try.prog 33 #[.int .i64 a, .int .i64 b] w fun e w' => e = .returned (.int .i64 (leI a b)) ∧ w = w' := by
  by_cases h : a ≤ b
  · have e : leI a b = 1 := if_pos h
    go_enter Try.func33, Try.ntmps33; go_wp2; go_ret; exact ⟨by first | exact ret_int e.symm | rfl, rfl⟩
  · have e : leI a b = 0 := if_neg h
    go_enter Try.func33, Try.ntmps33; go_wp2; go_ret; exact ⟨by first | exact ret_int e.symm | rfl, rfl⟩
theorem f34 (a b : Int) (w : World) : Calls Try.prog 34 #[.int .i64 a, .int .i64 b] w fun e w' => e = .returned (.int .i64 (eqI a b)) ∧ w = w' := by
  by_cases h : a = b
  · have e : eqI a b = 1 := if_pos h
    have hb : (a == b) = true := by simpa using h
    clear h
    go_enter Try.func34, Try.ntmps34; go_wp2; go_ret; exact ⟨by first | exact ret_int e.symm | rfl, rfl⟩
  · have e : eqI a b = 0 := if_neg h
    have hb : (a == b) = false := by simpa using h
    clear h
    go_enter Try.func34, Try.ntmps34; go_wp2; go_ret; exact ⟨by first | exact ret_int e.symm | rfl, rfl⟩
theorem f35 (a b : Int) (w : World) : Calls Try.prog 35 #[.int .i64 a, .int .i64 b] w fun e w' => e = .returned (.int .i64 (neI a b)) ∧ w = w' := by
  by_cases h : a = b
  · have e : neI a b = 0 := if_pos h
    have hb : (a == b) = true := by simpa using h
    have hc : (a != b) = false := by simpa using h
    clear h
    go_enter Try.func35, Try.ntmps35; go_wp2; go_ret; exact ⟨by first | exact ret_int e.symm | rfl, rfl⟩
  · have e : neI a b = 1 := if_neg h
    have hb : (a == b) = false := by simpa using h
    have hc : (a != b) = true := by simpa using h
    clear h
    go_enter Try.func35, Try.ntmps35; go_wp2; go_ret; exact ⟨by first | exact ret_int e.symm | rfl, rfl⟩

end Go.Proofs.Ytgjgfoggcomhlaa
