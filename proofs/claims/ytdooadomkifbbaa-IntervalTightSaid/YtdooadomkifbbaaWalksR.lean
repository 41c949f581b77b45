/-
  The walks of the reference's operators of words, as in the word layer. No condition beyond the operator's range.
-/
import Derived.Test.YtdooadomkifbbaaWord
import Derived.Test.YtdooadomkifbbaaWalksA
namespace Go.Proofs.Ytdooadomkifbbaa
open Go.RowKit
set_option maxHeartbeats 400000

theorem ret_two {a b : Int} (h : a = b) : Ending.returned (.tuple #[.int .i64 a, .int .i64 0]) = .returned (.tuple #[.int .i64 b, .int .i64 0]) := by rw [h]
theorem w_mod (a : Int) : wrap64 (wrap32 (a % 4294967296)) = wrap32 a := by unfold wrap64 wrap32; omega
theorem w_mod2 (a : Int) : wrap64 (wrap32 (a % 18446744073709551616 % 4294967296)) = wrap32 a := by unfold wrap64 wrap32; omega
theorem rwrap_any (a : Int) (w : World) :
    Calls Try.prog 40 #[.int .i64 a] w fun e w' => e = .returned (.int .i64 (wrap32 a)) ∧ w = w' := by
  go_enter Try.func40, Try.ntmps40
  go_wp2
  go_ret
  exact ⟨ret_int (by first | exact w_mod2 a | exact w_mod a), rfl⟩
theorem shl_run (k : IntKind) (a b : Int) (w : World) : (Op.shift .shl .i64 a k (b % 32)).run Try.prog w = .ok (.int .i64 (wrap64 (a * 2 ^ (b % 32).toNat))) w := by
  rw [shift_shl .i64 k a (b % 32) (by omega) (by show b % 32 ≤ ((64 : Nat) : Int); omega), IntWalk.i64_left]; rfl
theorem shr_run (k : IntKind) (a b : Int) (w : World) : (Op.shift .shr .i64 a k (b % 32)).run Try.prog w = .ok (.int .i64 (a / 2 ^ (b % 32).toNat)) w := by
  rw [shift_shr .i64 k a (b % 32) (by omega) (by show b % 32 ≤ ((64 : Nat) : Int); omega)]; rfl
def truthI (c : Bool) : Int := if c = true then 1 else 0
theorem rtruth (c : Bool) (w : World) : Calls Try.prog 41 #[.bool c] w fun e w' => e = .returned (.int .i64 (truthI c)) ∧ w = w' := by
  cases c
  · go_enter Try.func41, Try.ntmps41; go_wp2; go_ret; exact ⟨rfl, rfl⟩
  · go_enter Try.func41, Try.ntmps41; go_wp2; go_ret; exact ⟨rfl, rfl⟩
theorem rdo1 (a b : Int) (w : World) : Calls Try.prog 17 #[.int .i64 1, .int .i64 a, .int .i64 b] w fun e w' => e = .returned (.tuple #[.int .i64 (wdo 1 a b), .int .i64 0]) ∧ w = w' := by
  have ba := w32_bd a
  have bb := w32_bd b
  go_enter Try.func17, Try.ntmps17
  go_wp2_with (go_at_call 40; refine (rwrap_any _ _).mono ?_; rintro e w' ⟨rfl, rfl⟩)
  go_ret2
  exact ⟨ret_two (rfl), rfl⟩
theorem rdo2 (a b : Int) (w : World) : Calls Try.prog 17 #[.int .i64 2, .int .i64 a, .int .i64 b] w fun e w' => e = .returned (.tuple #[.int .i64 (wdo 2 a b), .int .i64 0]) ∧ w = w' := by
  have ba := w32_bd a
  have bb := w32_bd b
  go_enter Try.func17, Try.ntmps17
  go_wp2_with (go_at_call 40; refine (rwrap_any _ _).mono ?_; rintro e w' ⟨rfl, rfl⟩)
  go_ret2
  exact ⟨ret_two (rfl), rfl⟩
theorem rdo3 (a b : Int) (w : World) : Calls Try.prog 17 #[.int .i64 3, .int .i64 a, .int .i64 b] w fun e w' => e = .returned (.tuple #[.int .i64 (wdo 3 a b), .int .i64 0]) ∧ w = w' := by
  have ba := w32_bd a
  have bb := w32_bd b
  go_enter Try.func17, Try.ntmps17
  go_wp2_with (go_at_call 40; refine (rwrap_any _ _).mono ?_; rintro e w' ⟨rfl, rfl⟩)
  go_ret2
  exact ⟨ret_two (w32_w64 _), rfl⟩
theorem rdo4 (a b : Int) (w : World) : Calls Try.prog 17 #[.int .i64 4, .int .i64 a, .int .i64 b] w fun e w' => e = .returned (.tuple #[.int .i64 (wdo 4 a b), .int .i64 0]) ∧ w = w' := by
  by_cases h : wrap32 b = 0
  · have hw : wdo 4 a b = wrap32 0 := by
      unfold wdo; show wrap32 (if wrap32 b = 0 then 0 else _) = _; rw [if_pos h]
    have hc : (wrap32 b != 0) = false := by simpa using h
    have Hw := Lib.hid hw; clear hw h
    go_enter Try.func17, Try.ntmps17
    go_wp2_with (go_at_call 40; refine (rwrap_any _ _).mono ?_; rintro e w' ⟨rfl, rfl⟩)
    go_ret2
    exact ⟨ret_two Hw.out.symm, rfl⟩
  · have hw : wdo 4 a b = wrap32 ((wrap32 a).tdiv (wrap32 b)) := by
      unfold wdo; show wrap32 (if wrap32 b = 0 then 0 else _) = _; rw [if_neg h]
    have hc : (wrap32 b != 0) = true := by simpa using h
    have Hw := Lib.hid hw; clear hw
    go_enter Try.func17, Try.ntmps17
    go_wp2_with (go_at_call 40; refine (rwrap_any _ _).mono ?_; rintro e w' ⟨rfl, rfl⟩)
    go_ret2
    exact ⟨ret_two (by rw [Hw.out, w32_w64]), rfl⟩
theorem rdo5 (a b : Int) (w : World) : Calls Try.prog 17 #[.int .i64 5, .int .i64 a, .int .i64 b] w fun e w' => e = .returned (.tuple #[.int .i64 (wdo 5 a b), .int .i64 0]) ∧ w = w' := by
  by_cases h : wrap32 b = 0
  · have hw : wdo 5 a b = wrap32 0 := by
      unfold wdo; show wrap32 (if wrap32 b = 0 then 0 else _) = _; rw [if_pos h]
    have hc : (wrap32 b != 0) = false := by simpa using h
    have Hw := Lib.hid hw; clear hw h
    go_enter Try.func17, Try.ntmps17
    go_wp2_with (go_at_call 40; refine (rwrap_any _ _).mono ?_; rintro e w' ⟨rfl, rfl⟩)
    go_ret2
    exact ⟨ret_two Hw.out.symm, rfl⟩
  · have hw : wdo 5 a b = wrap32 ((wrap32 a).tmod (wrap32 b)) := by
      unfold wdo; show wrap32 (if wrap32 b = 0 then 0 else _) = _; rw [if_neg h]
    have hc : (wrap32 b != 0) = true := by simpa using h
    have Hw := Lib.hid hw; clear hw
    go_enter Try.func17, Try.ntmps17
    go_wp2_with (go_at_call 40; refine (rwrap_any _ _).mono ?_; rintro e w' ⟨rfl, rfl⟩)
    go_ret2
    exact ⟨ret_two (by rw [Hw.out]), rfl⟩
theorem rdo6 (a b : Int) (w : World) : Calls Try.prog 17 #[.int .i64 6, .int .i64 a, .int .i64 b] w fun e w' => e = .returned (.tuple #[.int .i64 (wdo 6 a b), .int .i64 0]) ∧ w = w' := by
  have ba := w32_bd a
  have bb := w32_bd b
  go_enter Try.func17, Try.ntmps17
  go_wp2_with (go_at_call 40; refine (rwrap_any _ _).mono ?_; rintro e w' ⟨rfl, rfl⟩)
  go_ret2
  exact ⟨ret_two (rfl), rfl⟩
theorem rdo7 (a b : Int) (w : World) : Calls Try.prog 17 #[.int .i64 7, .int .i64 a, .int .i64 b] w fun e w' => e = .returned (.tuple #[.int .i64 (wdo 7 a b), .int .i64 0]) ∧ w = w' := by
  have ba := w32_bd a
  have bb := w32_bd b
  go_enter Try.func17, Try.ntmps17
  go_wp2_with (go_at_call 40; refine (rwrap_any _ _).mono ?_; rintro e w' ⟨rfl, rfl⟩)
  go_ret2
  exact ⟨ret_two (rfl), rfl⟩
theorem rdo8 (a b : Int) (w : World) : Calls Try.prog 17 #[.int .i64 8, .int .i64 a, .int .i64 b] w fun e w' => e = .returned (.tuple #[.int .i64 (wdo 8 a b), .int .i64 0]) ∧ w = w' := by
  have ba := w32_bd a
  have bb := w32_bd b
  go_enter Try.func17, Try.ntmps17
  go_wp2_with (go_at_call 40; refine (rwrap_any _ _).mono ?_; rintro e w' ⟨rfl, rfl⟩)
  go_ret2
  exact ⟨ret_two (rfl), rfl⟩
theorem rdo9 (a b : Int) (w : World) : Calls Try.prog 17 #[.int .i64 9, .int .i64 a, .int .i64 b] w fun e w' => e = .returned (.tuple #[.int .i64 (wdo 9 a b), .int .i64 0]) ∧ w = w' := by
  have ba := w32_bd a
  have bb := w32_bd b
  have h1 := and31 (wrap32 b)
  have hu : IntKind.u64.wrap (wrap32 b % 32) = wrap32 b % 32 := by rw [IntKind.wrap_u64]; omega
  have h2 := shl_run .u64 (wrap32 a) (wrap32 b)
  go_enter Try.func17, Try.ntmps17
  go_wp2_with (go_at_call 40; refine (rwrap_any _ _).mono ?_; rintro e w' ⟨rfl, rfl⟩)
  go_ret2
  exact ⟨ret_two (w32_w64 _), rfl⟩
theorem rdo10 (a b : Int) (w : World) : Calls Try.prog 17 #[.int .i64 10, .int .i64 a, .int .i64 b] w fun e w' => e = .returned (.tuple #[.int .i64 (wdo 10 a b), .int .i64 0]) ∧ w = w' := by
  have ba := w32_bd a
  have bb := w32_bd b
  have h1 := and31 (wrap32 b)
  have hu : IntKind.u64.wrap (wrap32 b % 32) = wrap32 b % 32 := by rw [IntKind.wrap_u64]; omega
  have h2 := shr_run .u64 (wrap32 a) (wrap32 b)
  go_enter Try.func17, Try.ntmps17
  go_wp2_with (go_at_call 40; refine (rwrap_any _ _).mono ?_; rintro e w' ⟨rfl, rfl⟩)
  go_ret2
  exact ⟨ret_two (rfl), rfl⟩
theorem rdo11 (a b : Int) (w : World) : Calls Try.prog 17 #[.int .i64 11, .int .i64 a, .int .i64 b] w fun e w' => e = .returned (.tuple #[.int .i64 (wdo 11 a b), .int .i64 0]) ∧ w = w' := by
  have hw : wdo 11 a b = wrap32 (truthI (decide (wrap32 a < wrap32 b))) := by
    unfold wdo truthI; congr 1; show (if _ then _ else _) = _
    simp
  have Hw := Lib.hid hw; clear hw
  go_enter Try.func17, Try.ntmps17
  go_wp2_with (first | (go_at_call 40; refine (rwrap_any _ _).mono ?_; rintro e w' ⟨rfl, rfl⟩) | (go_at_call 41; refine (rtruth _ _).mono ?_; rintro e w' ⟨rfl, rfl⟩))
  all_goals (go_ret2; exact ⟨ret_two (by rw [Hw.out]), rfl⟩)
theorem rdo12 (a b : Int) (w : World) : Calls Try.prog 17 #[.int .i64 12, .int .i64 a, .int .i64 b] w fun e w' => e = .returned (.tuple #[.int .i64 (wdo 12 a b), .int .i64 0]) ∧ w = w' := by
  have hw : wdo 12 a b = wrap32 (truthI (decide (wrap32 a ≤ wrap32 b))) := by
    unfold wdo truthI; congr 1; show (if _ then _ else _) = _
    simp
  have Hw := Lib.hid hw; clear hw
  go_enter Try.func17, Try.ntmps17
  go_wp2_with (first | (go_at_call 40; refine (rwrap_any _ _).mono ?_; rintro e w' ⟨rfl, rfl⟩) | (go_at_call 41; refine (rtruth _ _).mono ?_; rintro e w' ⟨rfl, rfl⟩))
  all_goals (go_ret2; exact ⟨ret_two (by rw [Hw.out]), rfl⟩)
theorem rdo13 (a b : Int) (w : World) : Calls Try.prog 17 #[.int .i64 13, .int .i64 a, .int .i64 b] w fun e w' => e = .returned (.tuple #[.int .i64 (wdo 13 a b), .int .i64 0]) ∧ w = w' := by
  have hw : wdo 13 a b = wrap32 (truthI (wrap32 a == wrap32 b)) := by
    unfold wdo truthI; congr 1; show (if _ then _ else _) = _
    simp
  have Hw := Lib.hid hw; clear hw
  go_enter Try.func17, Try.ntmps17
  go_wp2_with (first | (go_at_call 40; refine (rwrap_any _ _).mono ?_; rintro e w' ⟨rfl, rfl⟩) | (go_at_call 41; refine (rtruth _ _).mono ?_; rintro e w' ⟨rfl, rfl⟩))
  all_goals (go_ret2; exact ⟨ret_two (by rw [Hw.out]), rfl⟩)
theorem rdo14 (a b : Int) (w : World) : Calls Try.prog 17 #[.int .i64 14, .int .i64 a, .int .i64 b] w fun e w' => e = .returned (.tuple #[.int .i64 (wdo 14 a b), .int .i64 0]) ∧ w = w' := by
  have hw : wdo 14 a b = wrap32 (truthI (wrap32 a != wrap32 b)) := by
    unfold wdo truthI; congr 1; show (if _ then _ else _) = _
    by_cases h : wrap32 a = wrap32 b <;> simp [h]
  have Hw := Lib.hid hw; clear hw
  go_enter Try.func17, Try.ntmps17
  go_wp2_with (first | (go_at_call 40; refine (rwrap_any _ _).mono ?_; rintro e w' ⟨rfl, rfl⟩) | (go_at_call 41; refine (rtruth _ _).mono ?_; rintro e w' ⟨rfl, rfl⟩))
  all_goals (go_ret2; exact ⟨ret_two (by rw [Hw.out]), rfl⟩)
theorem rdo_word (op a b : Int) (h1 : 1 ≤ op) (h2 : op ≤ 14) (w : World) :
    Calls Try.prog 17 #[.int .i64 op, .int .i64 a, .int .i64 b] w fun e w' => e = .returned (.tuple #[.int .i64 (wdo op a b), .int .i64 0]) ∧ w = w' := by
  have hop : op = 1 ∨ op = 2 ∨ op = 3 ∨ op = 4 ∨ op = 5 ∨ op = 6 ∨ op = 7 ∨ op = 8 ∨ op = 9 ∨ op = 10 ∨ op = 11 ∨ op = 12 ∨ op = 13 ∨ op = 14 := by omega
  rcases hop with rfl | rfl | rfl | rfl | rfl | rfl | rfl | rfl | rfl | rfl | rfl | rfl | rfl | rfl
  · exact rdo1 a b w
  · exact rdo2 a b w
  · exact rdo3 a b w
  · exact rdo4 a b w
  · exact rdo5 a b w
  · exact rdo6 a b w
  · exact rdo7 a b w
  · exact rdo8 a b w
  · exact rdo9 a b w
  · exact rdo10 a b w
  · exact rdo11 a b w
  · exact rdo12 a b w
  · exact rdo13 a b w
  · exact rdo14 a b w
end Go.Proofs.Ytdooadomkifbbaa
