/-
  The walks of word.Do, of its reference and of the law's own helper: each gives the plain 'wdo'. Conditions: none beyond the operator's range where it is named.
-/
import Derived.Test.YtaphfmbloappkaaDoorWalksW
import Derived.Below
namespace Go.Proofs.YtaphfmbloappkaaDoor
open Go.RowKit
set_option maxHeartbeats 400000

theorem known_yes (a : Int) (h1 : 1 ≤ a) (h2 : a ≤ 14) (w : World) :
    Calls Tryd.prog 40 #[.int .i64 a] w fun e w' => e = .returned (.bool true) ∧ w = w' := by
  refine (known_any a w).mono ?_
  rintro e w' ⟨rfl, rfl⟩
  exact ⟨by rw [show knownB a = true from decide_eq_true ⟨h1, h2⟩], rfl⟩
theorem known_no (a : Int) (h : ¬ (1 ≤ a ∧ a ≤ 14)) (w : World) :
    Calls Tryd.prog 40 #[.int .i64 a] w fun e w' => e = .returned (.bool false) ∧ w = w' := by
  refine (known_any a w).mono ?_
  rintro e w' ⟨rfl, rfl⟩
  exact ⟨by rw [show knownB a = false from decide_eq_false h], rfl⟩

theorem do_gen (op a b r : Int) (f : Nat) (h1 : 1 ≤ op) (h2 : op ≤ 14) (hix : ∀ w, (Instr.index 53 opsVal (.int .i64 (IntKind.i64.wrap (op - 1)))).run Tryd.prog w = .ok (.func (Fn.func f) #[] #[]) w)
    (hen : ∀ args w, (callFunc f args).run Tryd.prog w = .ok (.enter f args) w)
    (hf : ∀ w, Calls Tryd.prog f #[.int .i64 (wrap32 a), .int .i64 (wrap32 b)] w fun e w' => e = .returned (.int .i64 r) ∧ w = w') (w : World) :
    Calls Tryd.prog 25 #[.int .i64 op, .int .i64 a, .int .i64 b] w fun e w' => e = .returned (.tuple #[.int .i64 (wrap32 r), .int .i64 0]) ∧ Below w.heap.size w w' := by
  have Hf := Lib.hid hf; clear hf
  go_enter Tryd.func25, Tryd.ntmps25
  go_wp2_with (go_at_call 40; refine (known_yes _ (by omega) (by omega) _).mono ?_; rintro e w' ⟨rfl, rfl⟩)
  go_region_held3 (fun _ => True) (exact True.intro) (first | (go_at_call 41; refine (ops_any _).mono ?_; rintro e w' ⟨rfl, rfl⟩) | (go_at_call 31; refine (wrap_any _ _).mono ?_; rintro e w' ⟨rfl, rfl⟩) | (refine (Hf.out _).mono ?_; rintro e w' ⟨rfl, rfl⟩))
  all_goals go_wp2
  all_goals go_ret2
  all_goals exact ⟨rfl, by repeat (first | exact Below.refl _ _ | apply Below.drew | refine Below.alloc ?_ ?_ _ | (simp; done) | (simp; omega))⟩
theorem do_at {op a b r : Int} {f : Nat} (h1 : 1 ≤ op) (h2 : op ≤ 14) (hix : ∀ w, (Instr.index 53 opsVal (.int .i64 (IntKind.i64.wrap (op - 1)))).run Tryd.prog w = .ok (.func (Fn.func f) #[] #[]) w)
    (hen : ∀ args w, (callFunc f args).run Tryd.prog w = .ok (.enter f args) w)
    (hf : ∀ w, Calls Tryd.prog f #[.int .i64 (wrap32 a), .int .i64 (wrap32 b)] w fun e w' => e = .returned (.int .i64 r) ∧ w = w') (e : wrap32 r = wdo op a b) (w : World) :
    Calls Tryd.prog 25 #[.int .i64 op, .int .i64 a, .int .i64 b] w fun e w' => e = .returned (.tuple #[.int .i64 (wdo op a b), .int .i64 0]) ∧ Below w.heap.size w w' := by
  rw [← e]; exact do_gen op a b r f h1 h2 hix hen hf w

theorem wraw4 (a b : Int) : wrap32 (quoI a b) = wrap32 (wraw 4 a b) := by
  unfold quoI
  show _ = wrap32 (if b = 0 then 0 else a.tdiv b)
  split
  · rfl
  · rw [w32_w64]

theorem do_word (op a b : Int) (h1 : 1 ≤ op) (h2 : op ≤ 14) (w : World) :
    Calls Tryd.prog 25 #[.int .i64 op, .int .i64 a, .int .i64 b] w fun e w' => e = .returned (.tuple #[.int .i64 (wdo op a b), .int .i64 0]) ∧ Below w.heap.size w w' := by
  have ba := w32_bd a
  have bb := w32_bd b
  have hop : op = 1 ∨ op = 2 ∨ op = 3 ∨ op = 4 ∨ op = 5 ∨ op = 6 ∨ op = 7 ∨ op = 8 ∨ op = 9 ∨ op = 10 ∨ op = 11 ∨ op = 12 ∨ op = 13 ∨ op = 14 := by omega
  rcases hop with rfl | rfl | rfl | rfl | rfl | rfl | rfl | rfl | rfl | rfl | rfl | rfl | rfl | rfl
  · exact do_at h1 h2 (fun _ => by kernel_rfl) (Go.Proofs.enters_of Tryd.func46 (by kernel_rfl) rfl) (fun w => f21 _ _ ba.1 ba.2 bb.1 bb.2 w) (rfl) w
  · exact do_at h1 h2 (fun _ => by kernel_rfl) (Go.Proofs.enters_of Tryd.func47 (by kernel_rfl) rfl) (fun w => f22 _ _ ba.1 ba.2 bb.1 bb.2 w) (rfl) w
  · exact do_at h1 h2 (fun _ => by kernel_rfl) (Go.Proofs.enters_of Tryd.func48 (by kernel_rfl) rfl) (fun w => f23 _ _ w) (w32_w64 _) w
  · exact do_at h1 h2 (fun _ => by kernel_rfl) (Go.Proofs.enters_of Tryd.func49 (by kernel_rfl) rfl) (fun w => f24 _ _ w) (wraw4 _ _) w
  · exact do_at h1 h2 (fun _ => by kernel_rfl) (Go.Proofs.enters_of Tryd.func50 (by kernel_rfl) rfl) (fun w => f25 _ _ w) (rfl) w
  · exact do_at h1 h2 (fun _ => by kernel_rfl) (Go.Proofs.enters_of Tryd.func51 (by kernel_rfl) rfl) (fun w => f26 _ _ w) (rfl) w
  · exact do_at h1 h2 (fun _ => by kernel_rfl) (Go.Proofs.enters_of Tryd.func52 (by kernel_rfl) rfl) (fun w => f27 _ _ w) (rfl) w
  · exact do_at h1 h2 (fun _ => by kernel_rfl) (Go.Proofs.enters_of Tryd.func53 (by kernel_rfl) rfl) (fun w => f28 _ _ w) (rfl) w
  · exact do_at h1 h2 (fun _ => by kernel_rfl) (Go.Proofs.enters_of Tryd.func54 (by kernel_rfl) rfl) (fun w => f29 _ _ w) (w32_w64 _) w
  · exact do_at h1 h2 (fun _ => by kernel_rfl) (Go.Proofs.enters_of Tryd.func55 (by kernel_rfl) rfl) (fun w => f30 _ _ w) (rfl) w
  · exact do_at h1 h2 (fun _ => by kernel_rfl) (Go.Proofs.enters_of Tryd.func56 (by kernel_rfl) rfl) (fun w => f31 _ _ w) (rfl) w
  · exact do_at h1 h2 (fun _ => by kernel_rfl) (Go.Proofs.enters_of Tryd.func58 (by kernel_rfl) rfl) (fun w => f33 _ _ w) (rfl) w
  · exact do_at h1 h2 (fun _ => by kernel_rfl) (Go.Proofs.enters_of Tryd.func59 (by kernel_rfl) rfl) (fun w => f34 _ _ w) (rfl) w
  · exact do_at h1 h2 (fun _ => by kernel_rfl) (Go.Proofs.enters_of Tryd.func60 (by kernel_rfl) rfl) (fun w => f35 _ _ w) (rfl) w
theorem do_bad (op a b : Int) (h : ¬ (1 ≤ op ∧ op ≤ 14)) (w : World) :
    Calls Tryd.prog 25 #[.int .i64 op, .int .i64 a, .int .i64 b] w fun e w' => e = .returned (.tuple #[.int .i64 0, .int .i64 6]) ∧ Below w.heap.size w w' := by
  have H := Lib.hid h; clear h
  go_enter Tryd.func25, Tryd.ntmps25
  go_wp2_with (go_at_call 40; refine (known_no _ H.out _).mono ?_; rintro e w' ⟨rfl, rfl⟩)
  go_ret2
  exact ⟨rfl, Below.refl _ _⟩

/-! ### The reference -/
def truthI (c : Bool) : Int := if c = true then 1 else 0
theorem rtruth (c : Bool) (w : World) : Calls Tryd.prog 29 #[.bool c] w fun e w' => e = .returned (.int .i64 (truthI c)) ∧ w = w' := by
  cases c
  · go_enter Tryd.func29, Tryd.ntmps29; go_wp2; go_ret; exact ⟨rfl, rfl⟩
  · go_enter Tryd.func29, Tryd.ntmps29; go_wp2; go_ret; exact ⟨rfl, rfl⟩
theorem rdo1 (a b : Int) (w : World) : Calls Tryd.prog 13 #[.int .i64 1, .int .i64 a, .int .i64 b] w fun e w' => e = .returned (.tuple #[.int .i64 (wdo 1 a b), .int .i64 0]) ∧ w = w' := by
  have ba := w32_bd a
  have bb := w32_bd b
  go_enter Tryd.func13, Tryd.ntmps13
  go_wp2_with (go_at_call 28; refine (rwrap_any _ _).mono ?_; rintro e w' ⟨rfl, rfl⟩)
  go_ret2
  exact ⟨ret_two (rfl), rfl⟩
theorem rdo2 (a b : Int) (w : World) : Calls Tryd.prog 13 #[.int .i64 2, .int .i64 a, .int .i64 b] w fun e w' => e = .returned (.tuple #[.int .i64 (wdo 2 a b), .int .i64 0]) ∧ w = w' := by
  have ba := w32_bd a
  have bb := w32_bd b
  go_enter Tryd.func13, Tryd.ntmps13
  go_wp2_with (go_at_call 28; refine (rwrap_any _ _).mono ?_; rintro e w' ⟨rfl, rfl⟩)
  go_ret2
  exact ⟨ret_two (rfl), rfl⟩
theorem rdo3 (a b : Int) (w : World) : Calls Tryd.prog 13 #[.int .i64 3, .int .i64 a, .int .i64 b] w fun e w' => e = .returned (.tuple #[.int .i64 (wdo 3 a b), .int .i64 0]) ∧ w = w' := by
  have ba := w32_bd a
  have bb := w32_bd b
  go_enter Tryd.func13, Tryd.ntmps13
  go_wp2_with (go_at_call 28; refine (rwrap_any _ _).mono ?_; rintro e w' ⟨rfl, rfl⟩)
  go_ret2
  exact ⟨ret_two (w32_w64 _), rfl⟩
theorem rdo4 (a b : Int) (w : World) : Calls Tryd.prog 13 #[.int .i64 4, .int .i64 a, .int .i64 b] w fun e w' => e = .returned (.tuple #[.int .i64 (wdo 4 a b), .int .i64 0]) ∧ w = w' := by
  by_cases h : wrap32 b = 0
  · have hw : wdo 4 a b = wrap32 0 := by
      unfold wdo; show wrap32 (if wrap32 b = 0 then 0 else _) = _; rw [if_pos h]
    have hc : (wrap32 b != 0) = false := by simpa using h
    have Hw := Lib.hid hw; clear hw h
    go_enter Tryd.func13, Tryd.ntmps13
    go_wp2_with (go_at_call 28; refine (rwrap_any _ _).mono ?_; rintro e w' ⟨rfl, rfl⟩)
    go_ret2
    exact ⟨ret_two Hw.out.symm, rfl⟩
  · have hw : wdo 4 a b = wrap32 ((wrap32 a).tdiv (wrap32 b)) := by
      unfold wdo; show wrap32 (if wrap32 b = 0 then 0 else _) = _; rw [if_neg h]
    have hc : (wrap32 b != 0) = true := by simpa using h
    have Hw := Lib.hid hw; clear hw
    go_enter Tryd.func13, Tryd.ntmps13
    go_wp2_with (go_at_call 28; refine (rwrap_any _ _).mono ?_; rintro e w' ⟨rfl, rfl⟩)
    go_ret2
    exact ⟨ret_two (by rw [Hw.out, w32_w64]), rfl⟩
theorem rdo5 (a b : Int) (w : World) : Calls Tryd.prog 13 #[.int .i64 5, .int .i64 a, .int .i64 b] w fun e w' => e = .returned (.tuple #[.int .i64 (wdo 5 a b), .int .i64 0]) ∧ w = w' := by
  by_cases h : wrap32 b = 0
  · have hw : wdo 5 a b = wrap32 0 := by
      unfold wdo; show wrap32 (if wrap32 b = 0 then 0 else _) = _; rw [if_pos h]
    have hc : (wrap32 b != 0) = false := by simpa using h
    have Hw := Lib.hid hw; clear hw h
    go_enter Tryd.func13, Tryd.ntmps13
    go_wp2_with (go_at_call 28; refine (rwrap_any _ _).mono ?_; rintro e w' ⟨rfl, rfl⟩)
    go_ret2
    exact ⟨ret_two Hw.out.symm, rfl⟩
  · have hw : wdo 5 a b = wrap32 ((wrap32 a).tmod (wrap32 b)) := by
      unfold wdo; show wrap32 (if wrap32 b = 0 then 0 else _) = _; rw [if_neg h]
    have hc : (wrap32 b != 0) = true := by simpa using h
    have Hw := Lib.hid hw; clear hw
    go_enter Tryd.func13, Tryd.ntmps13
    go_wp2_with (go_at_call 28; refine (rwrap_any _ _).mono ?_; rintro e w' ⟨rfl, rfl⟩)
    go_ret2
    exact ⟨ret_two (by rw [Hw.out]), rfl⟩
theorem rdo6 (a b : Int) (w : World) : Calls Tryd.prog 13 #[.int .i64 6, .int .i64 a, .int .i64 b] w fun e w' => e = .returned (.tuple #[.int .i64 (wdo 6 a b), .int .i64 0]) ∧ w = w' := by
  have ba := w32_bd a
  have bb := w32_bd b
  go_enter Tryd.func13, Tryd.ntmps13
  go_wp2_with (go_at_call 28; refine (rwrap_any _ _).mono ?_; rintro e w' ⟨rfl, rfl⟩)
  go_ret2
  exact ⟨ret_two (rfl), rfl⟩
theorem rdo7 (a b : Int) (w : World) : Calls Tryd.prog 13 #[.int .i64 7, .int .i64 a, .int .i64 b] w fun e w' => e = .returned (.tuple #[.int .i64 (wdo 7 a b), .int .i64 0]) ∧ w = w' := by
  have ba := w32_bd a
  have bb := w32_bd b
  go_enter Tryd.func13, Tryd.ntmps13
  go_wp2_with (go_at_call 28; refine (rwrap_any _ _).mono ?_; rintro e w' ⟨rfl, rfl⟩)
  go_ret2
  exact ⟨ret_two (rfl), rfl⟩
theorem rdo8 (a b : Int) (w : World) : Calls Tryd.prog 13 #[.int .i64 8, .int .i64 a, .int .i64 b] w fun e w' => e = .returned (.tuple #[.int .i64 (wdo 8 a b), .int .i64 0]) ∧ w = w' := by
  have ba := w32_bd a
  have bb := w32_bd b
  go_enter Tryd.func13, Tryd.ntmps13
  go_wp2_with (go_at_call 28; refine (rwrap_any _ _).mono ?_; rintro e w' ⟨rfl, rfl⟩)
  go_ret2
  exact ⟨ret_two (rfl), rfl⟩
theorem rdo9 (a b : Int) (w : World) : Calls Tryd.prog 13 #[.int .i64 9, .int .i64 a, .int .i64 b] w fun e w' => e = .returned (.tuple #[.int .i64 (wdo 9 a b), .int .i64 0]) ∧ w = w' := by
  have ba := w32_bd a
  have bb := w32_bd b
  have h1 := and31 (wrap32 b)
  have hu : IntKind.u64.wrap (wrap32 b % 32) = wrap32 b % 32 := by rw [IntKind.wrap_u64]; omega
  have h2 := shl_run .u64 (wrap32 a) (wrap32 b)
  go_enter Tryd.func13, Tryd.ntmps13
  go_wp2_with (go_at_call 28; refine (rwrap_any _ _).mono ?_; rintro e w' ⟨rfl, rfl⟩)
  go_ret2
  exact ⟨ret_two (w32_w64 _), rfl⟩
theorem rdo10 (a b : Int) (w : World) : Calls Tryd.prog 13 #[.int .i64 10, .int .i64 a, .int .i64 b] w fun e w' => e = .returned (.tuple #[.int .i64 (wdo 10 a b), .int .i64 0]) ∧ w = w' := by
  have ba := w32_bd a
  have bb := w32_bd b
  have h1 := and31 (wrap32 b)
  have hu : IntKind.u64.wrap (wrap32 b % 32) = wrap32 b % 32 := by rw [IntKind.wrap_u64]; omega
  have h2 := shr_run .u64 (wrap32 a) (wrap32 b)
  go_enter Tryd.func13, Tryd.ntmps13
  go_wp2_with (go_at_call 28; refine (rwrap_any _ _).mono ?_; rintro e w' ⟨rfl, rfl⟩)
  go_ret2
  exact ⟨ret_two (rfl), rfl⟩
theorem rdo11 (a b : Int) (w : World) : Calls Tryd.prog 13 #[.int .i64 11, .int .i64 a, .int .i64 b] w fun e w' => e = .returned (.tuple #[.int .i64 (wdo 11 a b), .int .i64 0]) ∧ w = w' := by
  have hw : wdo 11 a b = wrap32 (truthI (decide (wrap32 a < wrap32 b))) := by
    unfold wdo truthI; congr 1; show (if _ then _ else _) = _
    simp
  have Hw := Lib.hid hw; clear hw
  go_enter Tryd.func13, Tryd.ntmps13
  go_wp2_with (first | (go_at_call 28; refine (rwrap_any _ _).mono ?_; rintro e w' ⟨rfl, rfl⟩) | (go_at_call 29; refine (rtruth _ _).mono ?_; rintro e w' ⟨rfl, rfl⟩))
  all_goals (go_ret2; exact ⟨ret_two (by rw [Hw.out]), rfl⟩)
theorem rdo12 (a b : Int) (w : World) : Calls Tryd.prog 13 #[.int .i64 12, .int .i64 a, .int .i64 b] w fun e w' => e = .returned (.tuple #[.int .i64 (wdo 12 a b), .int .i64 0]) ∧ w = w' := by
  have hw : wdo 12 a b = wrap32 (truthI (decide (wrap32 a ≤ wrap32 b))) := by
    unfold wdo truthI; congr 1; show (if _ then _ else _) = _
    simp
  have Hw := Lib.hid hw; clear hw
  go_enter Tryd.func13, Tryd.ntmps13
  go_wp2_with (first | (go_at_call 28; refine (rwrap_any _ _).mono ?_; rintro e w' ⟨rfl, rfl⟩) | (go_at_call 29; refine (rtruth _ _).mono ?_; rintro e w' ⟨rfl, rfl⟩))
  all_goals (go_ret2; exact ⟨ret_two (by rw [Hw.out]), rfl⟩)
theorem rdo13 (a b : Int) (w : World) : Calls Tryd.prog 13 #[.int .i64 13, .int .i64 a, .int .i64 b] w fun e w' => e = .returned (.tuple #[.int .i64 (wdo 13 a b), .int .i64 0]) ∧ w = w' := by
  have hw : wdo 13 a b = wrap32 (truthI (wrap32 a == wrap32 b)) := by
    unfold wdo truthI; congr 1; show (if _ then _ else _) = _
    simp
  have Hw := Lib.hid hw; clear hw
  go_enter Tryd.func13, Tryd.ntmps13
  go_wp2_with (first | (go_at_call 28; refine (rwrap_any _ _).mono ?_; rintro e w' ⟨rfl, rfl⟩) | (go_at_call 29; refine (rtruth _ _).mono ?_; rintro e w' ⟨rfl, rfl⟩))
  all_goals (go_ret2; exact ⟨ret_two (by rw [Hw.out]), rfl⟩)
theorem rdo14 (a b : Int) (w : World) : Calls Tryd.prog 13 #[.int .i64 14, .int .i64 a, .int .i64 b] w fun e w' => e = .returned (.tuple #[.int .i64 (wdo 14 a b), .int .i64 0]) ∧ w = w' := by
  have hw : wdo 14 a b = wrap32 (truthI (wrap32 a != wrap32 b)) := by
    unfold wdo truthI; congr 1; show (if _ then _ else _) = _
    by_cases h : wrap32 a = wrap32 b <;> simp [h]
  have Hw := Lib.hid hw; clear hw
  go_enter Tryd.func13, Tryd.ntmps13
  go_wp2_with (first | (go_at_call 28; refine (rwrap_any _ _).mono ?_; rintro e w' ⟨rfl, rfl⟩) | (go_at_call 29; refine (rtruth _ _).mono ?_; rintro e w' ⟨rfl, rfl⟩))
  all_goals (go_ret2; exact ⟨ret_two (by rw [Hw.out]), rfl⟩)
theorem rdo_word (op a b : Int) (h1 : 1 ≤ op) (h2 : op ≤ 14) (w : World) :
    Calls Tryd.prog 13 #[.int .i64 op, .int .i64 a, .int .i64 b] w fun e w' => e = .returned (.tuple #[.int .i64 (wdo op a b), .int .i64 0]) ∧ w = w' := by
  have hop : op = 1 ∨ op = 2 ∨ op = 3 ∨ op = 4 ∨ op = 5 ∨ op = 6 ∨ op = 7 ∨ op = 8 ∨ op = 9 ∨ op = 10 ∨ op = 11 ∨ op = 12 ∨ op = 13 ∨ op = 14 := by omega
  rcases hop with rfl | rfl | rfl | rfl | rfl | rfl | rfl | rfl | rfl | rfl | rfl | rfl | rfl | rfl
  · exact rdo1 a b w
  · exact rdo2 a b w
  · exact rdo3 a b w
  · exact rdo4 a b w
  · exact rdo5 a b w
  · exact rdo6 a b w
  · exact rdo7 a b w
  · exact rdo8 a b w
  · exact rdo9 a b w
  · exact rdo10 a b w
  · exact rdo11 a b w
  · exact rdo12 a b w
  · exact rdo13 a b w
  · exact rdo14 a b w
theorem rdo_bad (op a b : Int) (h : ¬ (1 ≤ op ∧ op ≤ 14)) (w : World) :
    Calls Tryd.prog 13 #[.int .i64 op, .int .i64 a, .int .i64 b] w fun e w' => e = .returned (.tuple #[.int .i64 0, .int .i64 6]) ∧ w = w' := by
  have b1 : (op == 1) = false := by simp; omega
  have b2 : (op == 2) = false := by simp; omega
  have b3 : (op == 3) = false := by simp; omega
  have b4 : (op == 4) = false := by simp; omega
  have b5 : (op == 5) = false := by simp; omega
  have b6 : (op == 6) = false := by simp; omega
  have b7 : (op == 7) = false := by simp; omega
  have b8 : (op == 8) = false := by simp; omega
  have b9 : (op == 9) = false := by simp; omega
  have b10 : (op == 10) = false := by simp; omega
  have b11 : (op == 11) = false := by simp; omega
  have b12 : (op == 12) = false := by simp; omega
  have b13 : (op == 13) = false := by simp; omega
  have b14 : (op == 14) = false := by simp; omega
  have H := Lib.hid h; clear h
  go_enter Tryd.func13, Tryd.ntmps13
  go_wp2_with (go_at_call 28; refine (rwrap_any _ _).mono ?_; rintro e w' ⟨rfl, rfl⟩)
  go_ret2
  exact ⟨rfl, rfl⟩

end Go.Proofs.YtaphfmbloappkaaDoor
