/-
  The walk of the law's helper 'partner', where there is a partner: it tells so. Conditions: a comparison, a word or the one beside it, and that a partner is among the five.
-/
import Derived.Test.YtdooadomkifbbaaWalksR
import Derived.Test.YtdooadomkifbbaaWalksA
import Derived.LoopTactic
import Derived.Lib.Hide
namespace Go.Proofs.Ytdooadomkifbbaa
open Go.RowKit
open Go.Proofs.YtdooadomkifbbaaW.PrintLast
set_option maxHeartbeats 20000000
set_option maxRecDepth 100000
set_option linter.unusedSimpArgs false
set_option linter.unusedVariables false

/-- Block g holds the five words that partner tries. -/
def AB (w : World) (g : Nat) (p q n : Int) : Prop := w.heap[g]? = some (.cells #[.int .i64 p, .int .i64 q, .int .i64 n, .int .i64 (n + 1), .int .i64 (n - 1)] 54 (0, 0))
section
variable {w : World} {g : Nat} {p q n : Int}
theorem AB.at (h : w.heap.size = g) : AB (w.alloc (.cells #[.int .i64 p, .int .i64 q, .int .i64 n, .int .i64 (n + 1), .int .i64 (n - 1)] 54)) g p q n := by
  subst h; show (w.heap.push _)[w.heap.size]? = _; simp
theorem AB.drew (h : AB w g p q n) : AB w.drew g p q n := h
theorem AB.c0 (h : AB w g p q n) : w.cell? ⟨g, 0, none⟩ = some (.int .i64 p) := by unfold AB at h; simp [World.cell?, h]
theorem AB.c1 (h : AB w g p q n) : w.cell? ⟨g, 1, none⟩ = some (.int .i64 q) := by unfold AB at h; simp [World.cell?, h]
theorem AB.c2 (h : AB w g p q n) : w.cell? ⟨g, 2, none⟩ = some (.int .i64 n) := by unfold AB at h; simp [World.cell?, h]
theorem AB.c3 (h : AB w g p q n) : w.cell? ⟨g, 3, none⟩ = some (.int .i64 (n + 1)) := by unfold AB at h; simp [World.cell?, h]
theorem AB.c4 (h : AB w g p q n) : w.cell? ⟨g, 4, none⟩ = some (.int .i64 (n - 1)) := by unfold AB at h; simp [World.cell?, h]
end
/-- What a word must meet. -/
def fits (op : Int) (t : Bool) (n p q l : Int) : Bool := decide (p ≤ l) && (decide (l ≤ q) && ((wdo op n l == 1) == t))
theorem fits_a {op n p q l : Int} {t : Bool} (h : decide (p ≤ l) = false) : fits op t n p q l = false := by unfold fits; rw [h]; rfl
theorem fits_b {op n p q l : Int} {t : Bool} (h : decide (l ≤ q) = false) : fits op t n p q l = false := by unfold fits; rw [h]; simp
theorem fits_c {op n p q l : Int} {t b : Bool} (h : (wdo op n l == 1) = b) (hb : (b == t) = false) : fits op t n p q l = false := by unfold fits; rw [h, hb]; simp
def PInv (w0 wr : World) (p q n : Int) : Prop := Below w0.heap.size w0 wr ∧ IB wr w0.heap.size p q ∧ AB wr (w0.heap.size + 1) p q n
/-- None of the words before place k has fitted. -/
structure NotYet (op : Int) (t : Bool) (n p q k : Int) : Prop where
  a0 : 0 < k → fits op t n p q p = false
  a1 : 1 < k → fits op t n p q q = false
  a2 : 2 < k → fits op t n p q n = false
  a3 : 3 < k → fits op t n p q (n + 1) = false
  a4 : 4 < k → fits op t n p q (n - 1) = false
theorem NotYet.step0 {op n p q : Int} {t : Bool} (h : NotYet op t n p q 0) (hf : fits op t n p q p = false) : NotYet op t n p q 1 :=
  ⟨fun _ => hf, fun z => by omega, fun z => by omega, fun z => by omega, fun z => by omega⟩
theorem NotYet.step1 {op n p q : Int} {t : Bool} (h : NotYet op t n p q 1) (hf : fits op t n p q q = false) : NotYet op t n p q 2 :=
  ⟨fun _ => h.a0 (by omega), fun _ => hf, fun z => by omega, fun z => by omega, fun z => by omega⟩
theorem NotYet.step2 {op n p q : Int} {t : Bool} (h : NotYet op t n p q 2) (hf : fits op t n p q n = false) : NotYet op t n p q 3 :=
  ⟨fun _ => h.a0 (by omega), fun _ => h.a1 (by omega), fun _ => hf, fun z => by omega, fun z => by omega⟩
theorem NotYet.step3 {op n p q : Int} {t : Bool} (h : NotYet op t n p q 3) (hf : fits op t n p q (n + 1) = false) : NotYet op t n p q 4 :=
  ⟨fun _ => h.a0 (by omega), fun _ => h.a1 (by omega), fun _ => h.a2 (by omega), fun _ => hf, fun z => by omega⟩
theorem NotYet.step4 {op n p q : Int} {t : Bool} (h : NotYet op t n p q 4) (hf : fits op t n p q (n - 1) = false) : NotYet op t n p q 5 :=
  ⟨fun _ => h.a0 (by omega), fun _ => h.a1 (by omega), fun _ => h.a2 (by omega), fun _ => h.a3 (by omega), fun _ => hf⟩
theorem partner_true (op n p q : Int) (o1 : 1 ≤ op) (o2 : op ≤ 14) (n0 : -2147483649 ≤ n) (n1 : n ≤ 2147483648) (hg : (fits op true n p q p = true ∨ fits op true n p q q = true ∨ fits op true n p q n = true ∨ fits op true n p q (n + 1) = true ∨ fits op true n p q (n - 1) = true)) (w : World) :
    Calls Try.prog 23 #[.int .i64 op, .bool true, .int .i64 n, .agg #[.int .i64 p, .int .i64 q]] w fun e w' => e = .returned (.bool true) ∧ Below w.heap.size w w' := by
  have v0 : wrap64 (n + 1) = n + 1 := w64_in (by omega) (by omega)
  have v1 : wrap64 (n - 1) = n - 1 := w64_in (by omega) (by omega)
  have HG := Lib.hid hg; clear hg
  go_enter Try.func23, Try.ntmps23
  go_wp2
  go_loopw [10] (fun i wr => ∃ k : Int, 0 ≤ k ∧ k ≤ 5 ∧ i = .int .i64 k ∧ Hid (PInv w wr p q n) ∧ Hid (NotYet op true n p q k)) (fun i _ => (5 - intOf i).toNat)
  case atStart => exact ⟨0, by omega, by omega, rfl, Lib.hid ⟨((below_alloc w _)).alloc (by simp) _, (IB.new w p q).alloc _, AB.at (by simp)⟩, Lib.hid ⟨fun h => by omega, fun h => by omega, fun h => by omega, fun h => by omega, fun h => by omega⟩⟩
  case round =>
    obtain ⟨k, k0, k5, rfl, hI, hN⟩ := hrel
    obtain ⟨hB, i0, ab⟩ := hI.out
    have c0 := i0.c0; have d0 := i0.c1; have a0 := ab.c0; have a1 := ab.c1; have a2 := ab.c2; have a3 := ab.c3; have a4 := ab.c4
    have HB := Lib.hid hB; have HI0 := Lib.hid i0; have HAB := Lib.hid ab
    clear hB i0 ab hI
    rcases (show k = 0 ∨ k = 1 ∨ k = 2 ∨ k = 3 ∨ k = 4 ∨ k = 5 by omega) with rfl | rfl | rfl | rfl | rfl | rfl
    · cases hA : decide (p ≤ p)
      · exact absurd hA (by simp)
      · cases hC : decide (p ≤ q)
        · go_wp2_with (go_at_call 17; refine (rdo_word _ _ _ o1 o2 _).mono ?_; rintro e w' ⟨rfl, rfl⟩)
          refine o_start (S := fun w' => PInv w w' p q n) (ds := []) (.cons 0 0 (.cons 1 0 (.cons 2 1 (.cons 3 0 (.cons 4 1 (.cons 5 0 (.cons 6 0 (.cons 7 0 (.cons 8 0 (.cons 9 1 (.cons 10 0 (.cons 11 1 (.cons 12 0 (.cons 13 0 (.cons 14 0 (.cons 15 0 (.cons 16 0 (.cons 17 0 (.cons 18 0 (.cons 19 0 .nil)))))))))))))))))))) (by kernel_rfl) (by kernel_rfl) (fun _ _ d _ _ h => by cases d <;> exact h) ⟨HB.out.drew, HI0.out.drew, HAB.out.drew⟩ (fun w1 hS => ?_)
          repeat' (first
            | (refine o_off (a' := ?_) rfl rfl (by rfl) ?_ ?_; rotate_left; (focus (simp only [Act.put, List.setIfInBounds_toArray, List.set_cons_zero, List.set_cons_succ, i64_w, i32_w]; rfl)))
            | (refine o_pure (v := ?_) (a' := ?_) rfl rfl (by rfl) ?_ ?_ ?_; rotate_left 2; (focus (intro w'; go_simp; with_reducible rfl)); (focus (simp only [Act.put, List.setIfInBounds_toArray, List.set_cons_zero, List.set_cons_succ, i64_w, i32_w]; rfl)))
            | (refine o_loadoff (a' := ?_) rfl rfl (by rfl) hS ?_ ?_; rotate_left; (focus (simp only [Act.put, List.setIfInBounds_toArray, List.set_cons_zero, List.set_cons_succ, i64_w, i32_w]; rfl)))
            | (refine o_load (v := ?_) (a' := ?_) rfl rfl (by rfl) hS ?_ ?_ ?_; rotate_left 2; (focus (rintro w' ⟨_, i0, ab⟩; have c0 := i0.c0; have d0 := i0.c1; have a0 := ab.c0; have a1 := ab.c1; have a2 := ab.c2; have a3 := ab.c3; have a4 := ab.c4; go_simp; with_reducible rfl)); (focus (simp only [Act.put, List.setIfInBounds_toArray, List.set_cons_zero, List.set_cons_succ, i64_w, i32_w]; rfl))))
          refine o_done ?_
          obtain ⟨hB, i0, ab⟩ := hS
          go_wp2
          go_roundw
          case rel => exact ⟨1, by omega, by omega, by go_num, Lib.hid ⟨hB, i0, ab⟩, Lib.hid (hN.out.step0 (fits_b hC))⟩
          case measure => simp [intOf]
        · cases hD : (wdo op n p == 1)
          · go_wp2_with (go_at_call 17; refine (rdo_word _ _ _ o1 o2 _).mono ?_; rintro e w' ⟨rfl, rfl⟩)
            refine o_start (S := fun w' => PInv w w' p q n) (ds := []) (.cons 0 0 (.cons 1 0 (.cons 2 1 (.cons 3 0 (.cons 4 1 (.cons 5 0 (.cons 6 0 (.cons 7 0 (.cons 8 0 (.cons 9 1 (.cons 10 0 (.cons 11 1 (.cons 12 0 (.cons 13 0 (.cons 14 0 (.cons 15 0 (.cons 16 0 (.cons 17 0 (.cons 18 0 (.cons 19 0 .nil)))))))))))))))))))) (by kernel_rfl) (by kernel_rfl) (fun _ _ d _ _ h => by cases d <;> exact h) ⟨HB.out.drew, HI0.out.drew, HAB.out.drew⟩ (fun w1 hS => ?_)
            repeat' (first
              | (refine o_off (a' := ?_) rfl rfl (by rfl) ?_ ?_; rotate_left; (focus (simp only [Act.put, List.setIfInBounds_toArray, List.set_cons_zero, List.set_cons_succ, i64_w, i32_w]; rfl)))
              | (refine o_pure (v := ?_) (a' := ?_) rfl rfl (by rfl) ?_ ?_ ?_; rotate_left 2; (focus (intro w'; go_simp; with_reducible rfl)); (focus (simp only [Act.put, List.setIfInBounds_toArray, List.set_cons_zero, List.set_cons_succ, i64_w, i32_w]; rfl)))
              | (refine o_loadoff (a' := ?_) rfl rfl (by rfl) hS ?_ ?_; rotate_left; (focus (simp only [Act.put, List.setIfInBounds_toArray, List.set_cons_zero, List.set_cons_succ, i64_w, i32_w]; rfl)))
              | (refine o_load (v := ?_) (a' := ?_) rfl rfl (by rfl) hS ?_ ?_ ?_; rotate_left 2; (focus (rintro w' ⟨_, i0, ab⟩; have c0 := i0.c0; have d0 := i0.c1; have a0 := ab.c0; have a1 := ab.c1; have a2 := ab.c2; have a3 := ab.c3; have a4 := ab.c4; go_simp; with_reducible rfl)); (focus (simp only [Act.put, List.setIfInBounds_toArray, List.set_cons_zero, List.set_cons_succ, i64_w, i32_w]; rfl))))
            refine o_done ?_
            obtain ⟨hB, i0, ab⟩ := hS
            go_wp2
            go_roundw
            case rel => exact ⟨1, by omega, by omega, by go_num, Lib.hid ⟨hB, i0, ab⟩, Lib.hid (hN.out.step0 (fits_c hD rfl))⟩
            case measure => simp [intOf]
          · go_wp2_with (go_at_call 17; refine (rdo_word _ _ _ o1 o2 _).mono ?_; rintro e w' ⟨rfl, rfl⟩)
            refine o_start (S := fun w' => PInv w w' p q n) (ds := []) (.cons 0 0 (.cons 1 0 (.cons 2 1 (.cons 3 0 (.cons 4 1 (.cons 5 0 (.cons 6 0 (.cons 7 0 (.cons 8 0 (.cons 9 1 (.cons 10 0 (.cons 11 1 (.cons 12 0 (.cons 13 0 (.cons 14 0 (.cons 15 0 (.cons 16 0 (.cons 17 0 (.cons 18 0 (.cons 19 0 .nil)))))))))))))))))))) (by kernel_rfl) (by kernel_rfl) (fun _ _ d _ _ h => by cases d <;> exact h) ⟨HB.out.drew, HI0.out.drew, HAB.out.drew⟩ (fun w1 hS => ?_)
            repeat' (first
              | (refine o_off (a' := ?_) rfl rfl (by rfl) ?_ ?_; rotate_left; (focus (simp only [Act.put, List.setIfInBounds_toArray, List.set_cons_zero, List.set_cons_succ, i64_w, i32_w]; rfl)))
              | (refine o_pure (v := ?_) (a' := ?_) rfl rfl (by rfl) ?_ ?_ ?_; rotate_left 2; (focus (intro w'; go_simp; with_reducible rfl)); (focus (simp only [Act.put, List.setIfInBounds_toArray, List.set_cons_zero, List.set_cons_succ, i64_w, i32_w]; rfl)))
              | (refine o_loadoff (a' := ?_) rfl rfl (by rfl) hS ?_ ?_; rotate_left; (focus (simp only [Act.put, List.setIfInBounds_toArray, List.set_cons_zero, List.set_cons_succ, i64_w, i32_w]; rfl)))
              | (refine o_load (v := ?_) (a' := ?_) rfl rfl (by rfl) hS ?_ ?_ ?_; rotate_left 2; (focus (rintro w' ⟨_, i0, ab⟩; have c0 := i0.c0; have d0 := i0.c1; have a0 := ab.c0; have a1 := ab.c1; have a2 := ab.c2; have a3 := ab.c3; have a4 := ab.c4; go_simp; with_reducible rfl)); (focus (simp only [Act.put, List.setIfInBounds_toArray, List.set_cons_zero, List.set_cons_succ, i64_w, i32_w]; rfl))))
            refine o_done ?_
            obtain ⟨hB, i0, ab⟩ := hS
            go_wp2
            go_ret
            exact ⟨rfl, hB⟩
    · cases hA : decide (p ≤ q)
      · go_wp2_with (go_at_call 17; refine (rdo_word _ _ _ o1 o2 _).mono ?_; rintro e w' ⟨rfl, rfl⟩)
        refine o_start (S := fun w' => PInv w w' p q n) (ds := []) (.cons 0 0 (.cons 1 0 (.cons 2 1 (.cons 3 0 (.cons 4 1 (.cons 5 0 (.cons 6 0 (.cons 7 0 (.cons 8 0 (.cons 9 1 (.cons 10 0 (.cons 11 1 (.cons 12 0 (.cons 13 0 (.cons 14 0 (.cons 15 0 (.cons 16 0 (.cons 17 0 (.cons 18 0 (.cons 19 0 .nil)))))))))))))))))))) (by kernel_rfl) (by kernel_rfl) (fun _ _ d _ _ h => by cases d <;> exact h) ⟨HB.out.drew, HI0.out.drew, HAB.out.drew⟩ (fun w1 hS => ?_)
        repeat' (first
          | (refine o_off (a' := ?_) rfl rfl (by rfl) ?_ ?_; rotate_left; (focus (simp only [Act.put, List.setIfInBounds_toArray, List.set_cons_zero, List.set_cons_succ, i64_w, i32_w]; rfl)))
          | (refine o_pure (v := ?_) (a' := ?_) rfl rfl (by rfl) ?_ ?_ ?_; rotate_left 2; (focus (intro w'; go_simp; with_reducible rfl)); (focus (simp only [Act.put, List.setIfInBounds_toArray, List.set_cons_zero, List.set_cons_succ, i64_w, i32_w]; rfl)))
          | (refine o_loadoff (a' := ?_) rfl rfl (by rfl) hS ?_ ?_; rotate_left; (focus (simp only [Act.put, List.setIfInBounds_toArray, List.set_cons_zero, List.set_cons_succ, i64_w, i32_w]; rfl)))
          | (refine o_load (v := ?_) (a' := ?_) rfl rfl (by rfl) hS ?_ ?_ ?_; rotate_left 2; (focus (rintro w' ⟨_, i0, ab⟩; have c0 := i0.c0; have d0 := i0.c1; have a0 := ab.c0; have a1 := ab.c1; have a2 := ab.c2; have a3 := ab.c3; have a4 := ab.c4; go_simp; with_reducible rfl)); (focus (simp only [Act.put, List.setIfInBounds_toArray, List.set_cons_zero, List.set_cons_succ, i64_w, i32_w]; rfl))))
        refine o_done ?_
        obtain ⟨hB, i0, ab⟩ := hS
        go_wp2
        go_roundw
        case rel => exact ⟨2, by omega, by omega, by go_num, Lib.hid ⟨hB, i0, ab⟩, Lib.hid (hN.out.step1 (fits_a hA))⟩
        case measure => simp [intOf]
      · cases hC : decide (q ≤ q)
        · exact absurd hC (by simp)
        · cases hD : (wdo op n q == 1)
          · go_wp2_with (go_at_call 17; refine (rdo_word _ _ _ o1 o2 _).mono ?_; rintro e w' ⟨rfl, rfl⟩)
            refine o_start (S := fun w' => PInv w w' p q n) (ds := []) (.cons 0 0 (.cons 1 0 (.cons 2 1 (.cons 3 0 (.cons 4 1 (.cons 5 0 (.cons 6 0 (.cons 7 0 (.cons 8 0 (.cons 9 1 (.cons 10 0 (.cons 11 1 (.cons 12 0 (.cons 13 0 (.cons 14 0 (.cons 15 0 (.cons 16 0 (.cons 17 0 (.cons 18 0 (.cons 19 0 .nil)))))))))))))))))))) (by kernel_rfl) (by kernel_rfl) (fun _ _ d _ _ h => by cases d <;> exact h) ⟨HB.out.drew, HI0.out.drew, HAB.out.drew⟩ (fun w1 hS => ?_)
            repeat' (first
              | (refine o_off (a' := ?_) rfl rfl (by rfl) ?_ ?_; rotate_left; (focus (simp only [Act.put, List.setIfInBounds_toArray, List.set_cons_zero, List.set_cons_succ, i64_w, i32_w]; rfl)))
              | (refine o_pure (v := ?_) (a' := ?_) rfl rfl (by rfl) ?_ ?_ ?_; rotate_left 2; (focus (intro w'; go_simp; with_reducible rfl)); (focus (simp only [Act.put, List.setIfInBounds_toArray, List.set_cons_zero, List.set_cons_succ, i64_w, i32_w]; rfl)))
              | (refine o_loadoff (a' := ?_) rfl rfl (by rfl) hS ?_ ?_; rotate_left; (focus (simp only [Act.put, List.setIfInBounds_toArray, List.set_cons_zero, List.set_cons_succ, i64_w, i32_w]; rfl)))
              | (refine o_load (v := ?_) (a' := ?_) rfl rfl (by rfl) hS ?_ ?_ ?_; rotate_left 2; (focus (rintro w' ⟨_, i0, ab⟩; have c0 := i0.c0; have d0 := i0.c1; have a0 := ab.c0; have a1 := ab.c1; have a2 := ab.c2; have a3 := ab.c3; have a4 := ab.c4; go_simp; with_reducible rfl)); (focus (simp only [Act.put, List.setIfInBounds_toArray, List.set_cons_zero, List.set_cons_succ, i64_w, i32_w]; rfl))))
            refine o_done ?_
            obtain ⟨hB, i0, ab⟩ := hS
            go_wp2
            go_roundw
            case rel => exact ⟨2, by omega, by omega, by go_num, Lib.hid ⟨hB, i0, ab⟩, Lib.hid (hN.out.step1 (fits_c hD rfl))⟩
            case measure => simp [intOf]
          · go_wp2_with (go_at_call 17; refine (rdo_word _ _ _ o1 o2 _).mono ?_; rintro e w' ⟨rfl, rfl⟩)
            refine o_start (S := fun w' => PInv w w' p q n) (ds := []) (.cons 0 0 (.cons 1 0 (.cons 2 1 (.cons 3 0 (.cons 4 1 (.cons 5 0 (.cons 6 0 (.cons 7 0 (.cons 8 0 (.cons 9 1 (.cons 10 0 (.cons 11 1 (.cons 12 0 (.cons 13 0 (.cons 14 0 (.cons 15 0 (.cons 16 0 (.cons 17 0 (.cons 18 0 (.cons 19 0 .nil)))))))))))))))))))) (by kernel_rfl) (by kernel_rfl) (fun _ _ d _ _ h => by cases d <;> exact h) ⟨HB.out.drew, HI0.out.drew, HAB.out.drew⟩ (fun w1 hS => ?_)
            repeat' (first
              | (refine o_off (a' := ?_) rfl rfl (by rfl) ?_ ?_; rotate_left; (focus (simp only [Act.put, List.setIfInBounds_toArray, List.set_cons_zero, List.set_cons_succ, i64_w, i32_w]; rfl)))
              | (refine o_pure (v := ?_) (a' := ?_) rfl rfl (by rfl) ?_ ?_ ?_; rotate_left 2; (focus (intro w'; go_simp; with_reducible rfl)); (focus (simp only [Act.put, List.setIfInBounds_toArray, List.set_cons_zero, List.set_cons_succ, i64_w, i32_w]; rfl)))
              | (refine o_loadoff (a' := ?_) rfl rfl (by rfl) hS ?_ ?_; rotate_left; (focus (simp only [Act.put, List.setIfInBounds_toArray, List.set_cons_zero, List.set_cons_succ, i64_w, i32_w]; rfl)))
              | (refine o_load (v := ?_) (a' := ?_) rfl rfl (by rfl) hS ?_ ?_ ?_; rotate_left 2; (focus (rintro w' ⟨_, i0, ab⟩; have c0 := i0.c0; have d0 := i0.c1; have a0 := ab.c0; have a1 := ab.c1; have a2 := ab.c2; have a3 := ab.c3; have a4 := ab.c4; go_simp; with_reducible rfl)); (focus (simp only [Act.put, List.setIfInBounds_toArray, List.set_cons_zero, List.set_cons_succ, i64_w, i32_w]; rfl))))
            refine o_done ?_
            obtain ⟨hB, i0, ab⟩ := hS
            go_wp2
            go_ret
            exact ⟨rfl, hB⟩
    · cases hA : decide (p ≤ n)
      · go_wp2_with (go_at_call 17; refine (rdo_word _ _ _ o1 o2 _).mono ?_; rintro e w' ⟨rfl, rfl⟩)
        refine o_start (S := fun w' => PInv w w' p q n) (ds := []) (.cons 0 0 (.cons 1 0 (.cons 2 1 (.cons 3 0 (.cons 4 1 (.cons 5 0 (.cons 6 0 (.cons 7 0 (.cons 8 0 (.cons 9 1 (.cons 10 0 (.cons 11 1 (.cons 12 0 (.cons 13 0 (.cons 14 0 (.cons 15 0 (.cons 16 0 (.cons 17 0 (.cons 18 0 (.cons 19 0 .nil)))))))))))))))))))) (by kernel_rfl) (by kernel_rfl) (fun _ _ d _ _ h => by cases d <;> exact h) ⟨HB.out.drew, HI0.out.drew, HAB.out.drew⟩ (fun w1 hS => ?_)
        repeat' (first
          | (refine o_off (a' := ?_) rfl rfl (by rfl) ?_ ?_; rotate_left; (focus (simp only [Act.put, List.setIfInBounds_toArray, List.set_cons_zero, List.set_cons_succ, i64_w, i32_w]; rfl)))
          | (refine o_pure (v := ?_) (a' := ?_) rfl rfl (by rfl) ?_ ?_ ?_; rotate_left 2; (focus (intro w'; go_simp; with_reducible rfl)); (focus (simp only [Act.put, List.setIfInBounds_toArray, List.set_cons_zero, List.set_cons_succ, i64_w, i32_w]; rfl)))
          | (refine o_loadoff (a' := ?_) rfl rfl (by rfl) hS ?_ ?_; rotate_left; (focus (simp only [Act.put, List.setIfInBounds_toArray, List.set_cons_zero, List.set_cons_succ, i64_w, i32_w]; rfl)))
          | (refine o_load (v := ?_) (a' := ?_) rfl rfl (by rfl) hS ?_ ?_ ?_; rotate_left 2; (focus (rintro w' ⟨_, i0, ab⟩; have c0 := i0.c0; have d0 := i0.c1; have a0 := ab.c0; have a1 := ab.c1; have a2 := ab.c2; have a3 := ab.c3; have a4 := ab.c4; go_simp; with_reducible rfl)); (focus (simp only [Act.put, List.setIfInBounds_toArray, List.set_cons_zero, List.set_cons_succ, i64_w, i32_w]; rfl))))
        refine o_done ?_
        obtain ⟨hB, i0, ab⟩ := hS
        go_wp2
        go_roundw
        case rel => exact ⟨3, by omega, by omega, by go_num, Lib.hid ⟨hB, i0, ab⟩, Lib.hid (hN.out.step2 (fits_a hA))⟩
        case measure => simp [intOf]
      · cases hC : decide (n ≤ q)
        · go_wp2_with (go_at_call 17; refine (rdo_word _ _ _ o1 o2 _).mono ?_; rintro e w' ⟨rfl, rfl⟩)
          refine o_start (S := fun w' => PInv w w' p q n) (ds := []) (.cons 0 0 (.cons 1 0 (.cons 2 1 (.cons 3 0 (.cons 4 1 (.cons 5 0 (.cons 6 0 (.cons 7 0 (.cons 8 0 (.cons 9 1 (.cons 10 0 (.cons 11 1 (.cons 12 0 (.cons 13 0 (.cons 14 0 (.cons 15 0 (.cons 16 0 (.cons 17 0 (.cons 18 0 (.cons 19 0 .nil)))))))))))))))))))) (by kernel_rfl) (by kernel_rfl) (fun _ _ d _ _ h => by cases d <;> exact h) ⟨HB.out.drew, HI0.out.drew, HAB.out.drew⟩ (fun w1 hS => ?_)
          repeat' (first
            | (refine o_off (a' := ?_) rfl rfl (by rfl) ?_ ?_; rotate_left; (focus (simp only [Act.put, List.setIfInBounds_toArray, List.set_cons_zero, List.set_cons_succ, i64_w, i32_w]; rfl)))
            | (refine o_pure (v := ?_) (a' := ?_) rfl rfl (by rfl) ?_ ?_ ?_; rotate_left 2; (focus (intro w'; go_simp; with_reducible rfl)); (focus (simp only [Act.put, List.setIfInBounds_toArray, List.set_cons_zero, List.set_cons_succ, i64_w, i32_w]; rfl)))
            | (refine o_loadoff (a' := ?_) rfl rfl (by rfl) hS ?_ ?_; rotate_left; (focus (simp only [Act.put, List.setIfInBounds_toArray, List.set_cons_zero, List.set_cons_succ, i64_w, i32_w]; rfl)))
            | (refine o_load (v := ?_) (a' := ?_) rfl rfl (by rfl) hS ?_ ?_ ?_; rotate_left 2; (focus (rintro w' ⟨_, i0, ab⟩; have c0 := i0.c0; have d0 := i0.c1; have a0 := ab.c0; have a1 := ab.c1; have a2 := ab.c2; have a3 := ab.c3; have a4 := ab.c4; go_simp; with_reducible rfl)); (focus (simp only [Act.put, List.setIfInBounds_toArray, List.set_cons_zero, List.set_cons_succ, i64_w, i32_w]; rfl))))
          refine o_done ?_
          obtain ⟨hB, i0, ab⟩ := hS
          go_wp2
          go_roundw
          case rel => exact ⟨3, by omega, by omega, by go_num, Lib.hid ⟨hB, i0, ab⟩, Lib.hid (hN.out.step2 (fits_b hC))⟩
          case measure => simp [intOf]
        · cases hD : (wdo op n n == 1)
          · go_wp2_with (go_at_call 17; refine (rdo_word _ _ _ o1 o2 _).mono ?_; rintro e w' ⟨rfl, rfl⟩)
            refine o_start (S := fun w' => PInv w w' p q n) (ds := []) (.cons 0 0 (.cons 1 0 (.cons 2 1 (.cons 3 0 (.cons 4 1 (.cons 5 0 (.cons 6 0 (.cons 7 0 (.cons 8 0 (.cons 9 1 (.cons 10 0 (.cons 11 1 (.cons 12 0 (.cons 13 0 (.cons 14 0 (.cons 15 0 (.cons 16 0 (.cons 17 0 (.cons 18 0 (.cons 19 0 .nil)))))))))))))))))))) (by kernel_rfl) (by kernel_rfl) (fun _ _ d _ _ h => by cases d <;> exact h) ⟨HB.out.drew, HI0.out.drew, HAB.out.drew⟩ (fun w1 hS => ?_)
            repeat' (first
              | (refine o_off (a' := ?_) rfl rfl (by rfl) ?_ ?_; rotate_left; (focus (simp only [Act.put, List.setIfInBounds_toArray, List.set_cons_zero, List.set_cons_succ, i64_w, i32_w]; rfl)))
              | (refine o_pure (v := ?_) (a' := ?_) rfl rfl (by rfl) ?_ ?_ ?_; rotate_left 2; (focus (intro w'; go_simp; with_reducible rfl)); (focus (simp only [Act.put, List.setIfInBounds_toArray, List.set_cons_zero, List.set_cons_succ, i64_w, i32_w]; rfl)))
              | (refine o_loadoff (a' := ?_) rfl rfl (by rfl) hS ?_ ?_; rotate_left; (focus (simp only [Act.put, List.setIfInBounds_toArray, List.set_cons_zero, List.set_cons_succ, i64_w, i32_w]; rfl)))
              | (refine o_load (v := ?_) (a' := ?_) rfl rfl (by rfl) hS ?_ ?_ ?_; rotate_left 2; (focus (rintro w' ⟨_, i0, ab⟩; have c0 := i0.c0; have d0 := i0.c1; have a0 := ab.c0; have a1 := ab.c1; have a2 := ab.c2; have a3 := ab.c3; have a4 := ab.c4; go_simp; with_reducible rfl)); (focus (simp only [Act.put, List.setIfInBounds_toArray, List.set_cons_zero, List.set_cons_succ, i64_w, i32_w]; rfl))))
            refine o_done ?_
            obtain ⟨hB, i0, ab⟩ := hS
            go_wp2
            go_roundw
            case rel => exact ⟨3, by omega, by omega, by go_num, Lib.hid ⟨hB, i0, ab⟩, Lib.hid (hN.out.step2 (fits_c hD rfl))⟩
            case measure => simp [intOf]
          · go_wp2_with (go_at_call 17; refine (rdo_word _ _ _ o1 o2 _).mono ?_; rintro e w' ⟨rfl, rfl⟩)
            refine o_start (S := fun w' => PInv w w' p q n) (ds := []) (.cons 0 0 (.cons 1 0 (.cons 2 1 (.cons 3 0 (.cons 4 1 (.cons 5 0 (.cons 6 0 (.cons 7 0 (.cons 8 0 (.cons 9 1 (.cons 10 0 (.cons 11 1 (.cons 12 0 (.cons 13 0 (.cons 14 0 (.cons 15 0 (.cons 16 0 (.cons 17 0 (.cons 18 0 (.cons 19 0 .nil)))))))))))))))))))) (by kernel_rfl) (by kernel_rfl) (fun _ _ d _ _ h => by cases d <;> exact h) ⟨HB.out.drew, HI0.out.drew, HAB.out.drew⟩ (fun w1 hS => ?_)
            repeat' (first
              | (refine o_off (a' := ?_) rfl rfl (by rfl) ?_ ?_; rotate_left; (focus (simp only [Act.put, List.setIfInBounds_toArray, List.set_cons_zero, List.set_cons_succ, i64_w, i32_w]; rfl)))
              | (refine o_pure (v := ?_) (a' := ?_) rfl rfl (by rfl) ?_ ?_ ?_; rotate_left 2; (focus (intro w'; go_simp; with_reducible rfl)); (focus (simp only [Act.put, List.setIfInBounds_toArray, List.set_cons_zero, List.set_cons_succ, i64_w, i32_w]; rfl)))
              | (refine o_loadoff (a' := ?_) rfl rfl (by rfl) hS ?_ ?_; rotate_left; (focus (simp only [Act.put, List.setIfInBounds_toArray, List.set_cons_zero, List.set_cons_succ, i64_w, i32_w]; rfl)))
              | (refine o_load (v := ?_) (a' := ?_) rfl rfl (by rfl) hS ?_ ?_ ?_; rotate_left 2; (focus (rintro w' ⟨_, i0, ab⟩; have c0 := i0.c0; have d0 := i0.c1; have a0 := ab.c0; have a1 := ab.c1; have a2 := ab.c2; have a3 := ab.c3; have a4 := ab.c4; go_simp; with_reducible rfl)); (focus (simp only [Act.put, List.setIfInBounds_toArray, List.set_cons_zero, List.set_cons_succ, i64_w, i32_w]; rfl))))
            refine o_done ?_
            obtain ⟨hB, i0, ab⟩ := hS
            go_wp2
            go_ret
            exact ⟨rfl, hB⟩
    · cases hA : decide (p ≤ (n + 1))
      · go_wp2_with (go_at_call 17; refine (rdo_word _ _ _ o1 o2 _).mono ?_; rintro e w' ⟨rfl, rfl⟩)
        refine o_start (S := fun w' => PInv w w' p q n) (ds := []) (.cons 0 0 (.cons 1 0 (.cons 2 1 (.cons 3 0 (.cons 4 1 (.cons 5 0 (.cons 6 0 (.cons 7 0 (.cons 8 0 (.cons 9 1 (.cons 10 0 (.cons 11 1 (.cons 12 0 (.cons 13 0 (.cons 14 0 (.cons 15 0 (.cons 16 0 (.cons 17 0 (.cons 18 0 (.cons 19 0 .nil)))))))))))))))))))) (by kernel_rfl) (by kernel_rfl) (fun _ _ d _ _ h => by cases d <;> exact h) ⟨HB.out.drew, HI0.out.drew, HAB.out.drew⟩ (fun w1 hS => ?_)
        repeat' (first
          | (refine o_off (a' := ?_) rfl rfl (by rfl) ?_ ?_; rotate_left; (focus (simp only [Act.put, List.setIfInBounds_toArray, List.set_cons_zero, List.set_cons_succ, i64_w, i32_w]; rfl)))
          | (refine o_pure (v := ?_) (a' := ?_) rfl rfl (by rfl) ?_ ?_ ?_; rotate_left 2; (focus (intro w'; go_simp; with_reducible rfl)); (focus (simp only [Act.put, List.setIfInBounds_toArray, List.set_cons_zero, List.set_cons_succ, i64_w, i32_w]; rfl)))
          | (refine o_loadoff (a' := ?_) rfl rfl (by rfl) hS ?_ ?_; rotate_left; (focus (simp only [Act.put, List.setIfInBounds_toArray, List.set_cons_zero, List.set_cons_succ, i64_w, i32_w]; rfl)))
          | (refine o_load (v := ?_) (a' := ?_) rfl rfl (by rfl) hS ?_ ?_ ?_; rotate_left 2; (focus (rintro w' ⟨_, i0, ab⟩; have c0 := i0.c0; have d0 := i0.c1; have a0 := ab.c0; have a1 := ab.c1; have a2 := ab.c2; have a3 := ab.c3; have a4 := ab.c4; go_simp; with_reducible rfl)); (focus (simp only [Act.put, List.setIfInBounds_toArray, List.set_cons_zero, List.set_cons_succ, i64_w, i32_w]; rfl))))
        refine o_done ?_
        obtain ⟨hB, i0, ab⟩ := hS
        go_wp2
        go_roundw
        case rel => exact ⟨4, by omega, by omega, by go_num, Lib.hid ⟨hB, i0, ab⟩, Lib.hid (hN.out.step3 (fits_a hA))⟩
        case measure => simp [intOf]
      · cases hC : decide ((n + 1) ≤ q)
        · go_wp2_with (go_at_call 17; refine (rdo_word _ _ _ o1 o2 _).mono ?_; rintro e w' ⟨rfl, rfl⟩)
          refine o_start (S := fun w' => PInv w w' p q n) (ds := []) (.cons 0 0 (.cons 1 0 (.cons 2 1 (.cons 3 0 (.cons 4 1 (.cons 5 0 (.cons 6 0 (.cons 7 0 (.cons 8 0 (.cons 9 1 (.cons 10 0 (.cons 11 1 (.cons 12 0 (.cons 13 0 (.cons 14 0 (.cons 15 0 (.cons 16 0 (.cons 17 0 (.cons 18 0 (.cons 19 0 .nil)))))))))))))))))))) (by kernel_rfl) (by kernel_rfl) (fun _ _ d _ _ h => by cases d <;> exact h) ⟨HB.out.drew, HI0.out.drew, HAB.out.drew⟩ (fun w1 hS => ?_)
          repeat' (first
            | (refine o_off (a' := ?_) rfl rfl (by rfl) ?_ ?_; rotate_left; (focus (simp only [Act.put, List.setIfInBounds_toArray, List.set_cons_zero, List.set_cons_succ, i64_w, i32_w]; rfl)))
            | (refine o_pure (v := ?_) (a' := ?_) rfl rfl (by rfl) ?_ ?_ ?_; rotate_left 2; (focus (intro w'; go_simp; with_reducible rfl)); (focus (simp only [Act.put, List.setIfInBounds_toArray, List.set_cons_zero, List.set_cons_succ, i64_w, i32_w]; rfl)))
            | (refine o_loadoff (a' := ?_) rfl rfl (by rfl) hS ?_ ?_; rotate_left; (focus (simp only [Act.put, List.setIfInBounds_toArray, List.set_cons_zero, List.set_cons_succ, i64_w, i32_w]; rfl)))
            | (refine o_load (v := ?_) (a' := ?_) rfl rfl (by rfl) hS ?_ ?_ ?_; rotate_left 2; (focus (rintro w' ⟨_, i0, ab⟩; have c0 := i0.c0; have d0 := i0.c1; have a0 := ab.c0; have a1 := ab.c1; have a2 := ab.c2; have a3 := ab.c3; have a4 := ab.c4; go_simp; with_reducible rfl)); (focus (simp only [Act.put, List.setIfInBounds_toArray, List.set_cons_zero, List.set_cons_succ, i64_w, i32_w]; rfl))))
          refine o_done ?_
          obtain ⟨hB, i0, ab⟩ := hS
          go_wp2
          go_roundw
          case rel => exact ⟨4, by omega, by omega, by go_num, Lib.hid ⟨hB, i0, ab⟩, Lib.hid (hN.out.step3 (fits_b hC))⟩
          case measure => simp [intOf]
        · cases hD : (wdo op n (n + 1) == 1)
          · go_wp2_with (go_at_call 17; refine (rdo_word _ _ _ o1 o2 _).mono ?_; rintro e w' ⟨rfl, rfl⟩)
            refine o_start (S := fun w' => PInv w w' p q n) (ds := []) (.cons 0 0 (.cons 1 0 (.cons 2 1 (.cons 3 0 (.cons 4 1 (.cons 5 0 (.cons 6 0 (.cons 7 0 (.cons 8 0 (.cons 9 1 (.cons 10 0 (.cons 11 1 (.cons 12 0 (.cons 13 0 (.cons 14 0 (.cons 15 0 (.cons 16 0 (.cons 17 0 (.cons 18 0 (.cons 19 0 .nil)))))))))))))))))))) (by kernel_rfl) (by kernel_rfl) (fun _ _ d _ _ h => by cases d <;> exact h) ⟨HB.out.drew, HI0.out.drew, HAB.out.drew⟩ (fun w1 hS => ?_)
            repeat' (first
              | (refine o_off (a' := ?_) rfl rfl (by rfl) ?_ ?_; rotate_left; (focus (simp only [Act.put, List.setIfInBounds_toArray, List.set_cons_zero, List.set_cons_succ, i64_w, i32_w]; rfl)))
              | (refine o_pure (v := ?_) (a' := ?_) rfl rfl (by rfl) ?_ ?_ ?_; rotate_left 2; (focus (intro w'; go_simp; with_reducible rfl)); (focus (simp only [Act.put, List.setIfInBounds_toArray, List.set_cons_zero, List.set_cons_succ, i64_w, i32_w]; rfl)))
              | (refine o_loadoff (a' := ?_) rfl rfl (by rfl) hS ?_ ?_; rotate_left; (focus (simp only [Act.put, List.setIfInBounds_toArray, List.set_cons_zero, List.set_cons_succ, i64_w, i32_w]; rfl)))
              | (refine o_load (v := ?_) (a' := ?_) rfl rfl (by rfl) hS ?_ ?_ ?_; rotate_left 2; (focus (rintro w' ⟨_, i0, ab⟩; have c0 := i0.c0; have d0 := i0.c1; have a0 := ab.c0; have a1 := ab.c1; have a2 := ab.c2; have a3 := ab.c3; have a4 := ab.c4; go_simp; with_reducible rfl)); (focus (simp only [Act.put, List.setIfInBounds_toArray, List.set_cons_zero, List.set_cons_succ, i64_w, i32_w]; rfl))))
            refine o_done ?_
            obtain ⟨hB, i0, ab⟩ := hS
            go_wp2
            go_roundw
            case rel => exact ⟨4, by omega, by omega, by go_num, Lib.hid ⟨hB, i0, ab⟩, Lib.hid (hN.out.step3 (fits_c hD rfl))⟩
            case measure => simp [intOf]
          · go_wp2_with (go_at_call 17; refine (rdo_word _ _ _ o1 o2 _).mono ?_; rintro e w' ⟨rfl, rfl⟩)
            refine o_start (S := fun w' => PInv w w' p q n) (ds := []) (.cons 0 0 (.cons 1 0 (.cons 2 1 (.cons 3 0 (.cons 4 1 (.cons 5 0 (.cons 6 0 (.cons 7 0 (.cons 8 0 (.cons 9 1 (.cons 10 0 (.cons 11 1 (.cons 12 0 (.cons 13 0 (.cons 14 0 (.cons 15 0 (.cons 16 0 (.cons 17 0 (.cons 18 0 (.cons 19 0 .nil)))))))))))))))))))) (by kernel_rfl) (by kernel_rfl) (fun _ _ d _ _ h => by cases d <;> exact h) ⟨HB.out.drew, HI0.out.drew, HAB.out.drew⟩ (fun w1 hS => ?_)
            repeat' (first
              | (refine o_off (a' := ?_) rfl rfl (by rfl) ?_ ?_; rotate_left; (focus (simp only [Act.put, List.setIfInBounds_toArray, List.set_cons_zero, List.set_cons_succ, i64_w, i32_w]; rfl)))
              | (refine o_pure (v := ?_) (a' := ?_) rfl rfl (by rfl) ?_ ?_ ?_; rotate_left 2; (focus (intro w'; go_simp; with_reducible rfl)); (focus (simp only [Act.put, List.setIfInBounds_toArray, List.set_cons_zero, List.set_cons_succ, i64_w, i32_w]; rfl)))
              | (refine o_loadoff (a' := ?_) rfl rfl (by rfl) hS ?_ ?_; rotate_left; (focus (simp only [Act.put, List.setIfInBounds_toArray, List.set_cons_zero, List.set_cons_succ, i64_w, i32_w]; rfl)))
              | (refine o_load (v := ?_) (a' := ?_) rfl rfl (by rfl) hS ?_ ?_ ?_; rotate_left 2; (focus (rintro w' ⟨_, i0, ab⟩; have c0 := i0.c0; have d0 := i0.c1; have a0 := ab.c0; have a1 := ab.c1; have a2 := ab.c2; have a3 := ab.c3; have a4 := ab.c4; go_simp; with_reducible rfl)); (focus (simp only [Act.put, List.setIfInBounds_toArray, List.set_cons_zero, List.set_cons_succ, i64_w, i32_w]; rfl))))
            refine o_done ?_
            obtain ⟨hB, i0, ab⟩ := hS
            go_wp2
            go_ret
            exact ⟨rfl, hB⟩
    · cases hA : decide (p ≤ (n - 1))
      · go_wp2_with (go_at_call 17; refine (rdo_word _ _ _ o1 o2 _).mono ?_; rintro e w' ⟨rfl, rfl⟩)
        refine o_start (S := fun w' => PInv w w' p q n) (ds := []) (.cons 0 0 (.cons 1 0 (.cons 2 1 (.cons 3 0 (.cons 4 1 (.cons 5 0 (.cons 6 0 (.cons 7 0 (.cons 8 0 (.cons 9 1 (.cons 10 0 (.cons 11 1 (.cons 12 0 (.cons 13 0 (.cons 14 0 (.cons 15 0 (.cons 16 0 (.cons 17 0 (.cons 18 0 (.cons 19 0 .nil)))))))))))))))))))) (by kernel_rfl) (by kernel_rfl) (fun _ _ d _ _ h => by cases d <;> exact h) ⟨HB.out.drew, HI0.out.drew, HAB.out.drew⟩ (fun w1 hS => ?_)
        repeat' (first
          | (refine o_off (a' := ?_) rfl rfl (by rfl) ?_ ?_; rotate_left; (focus (simp only [Act.put, List.setIfInBounds_toArray, List.set_cons_zero, List.set_cons_succ, i64_w, i32_w]; rfl)))
          | (refine o_pure (v := ?_) (a' := ?_) rfl rfl (by rfl) ?_ ?_ ?_; rotate_left 2; (focus (intro w'; go_simp; with_reducible rfl)); (focus (simp only [Act.put, List.setIfInBounds_toArray, List.set_cons_zero, List.set_cons_succ, i64_w, i32_w]; rfl)))
          | (refine o_loadoff (a' := ?_) rfl rfl (by rfl) hS ?_ ?_; rotate_left; (focus (simp only [Act.put, List.setIfInBounds_toArray, List.set_cons_zero, List.set_cons_succ, i64_w, i32_w]; rfl)))
          | (refine o_load (v := ?_) (a' := ?_) rfl rfl (by rfl) hS ?_ ?_ ?_; rotate_left 2; (focus (rintro w' ⟨_, i0, ab⟩; have c0 := i0.c0; have d0 := i0.c1; have a0 := ab.c0; have a1 := ab.c1; have a2 := ab.c2; have a3 := ab.c3; have a4 := ab.c4; go_simp; with_reducible rfl)); (focus (simp only [Act.put, List.setIfInBounds_toArray, List.set_cons_zero, List.set_cons_succ, i64_w, i32_w]; rfl))))
        refine o_done ?_
        obtain ⟨hB, i0, ab⟩ := hS
        go_wp2
        go_roundw
        case rel => exact ⟨5, by omega, by omega, by go_num, Lib.hid ⟨hB, i0, ab⟩, Lib.hid (hN.out.step4 (fits_a hA))⟩
        case measure => simp [intOf]
      · cases hC : decide ((n - 1) ≤ q)
        · go_wp2_with (go_at_call 17; refine (rdo_word _ _ _ o1 o2 _).mono ?_; rintro e w' ⟨rfl, rfl⟩)
          refine o_start (S := fun w' => PInv w w' p q n) (ds := []) (.cons 0 0 (.cons 1 0 (.cons 2 1 (.cons 3 0 (.cons 4 1 (.cons 5 0 (.cons 6 0 (.cons 7 0 (.cons 8 0 (.cons 9 1 (.cons 10 0 (.cons 11 1 (.cons 12 0 (.cons 13 0 (.cons 14 0 (.cons 15 0 (.cons 16 0 (.cons 17 0 (.cons 18 0 (.cons 19 0 .nil)))))))))))))))))))) (by kernel_rfl) (by kernel_rfl) (fun _ _ d _ _ h => by cases d <;> exact h) ⟨HB.out.drew, HI0.out.drew, HAB.out.drew⟩ (fun w1 hS => ?_)
          repeat' (first
            | (refine o_off (a' := ?_) rfl rfl (by rfl) ?_ ?_; rotate_left; (focus (simp only [Act.put, List.setIfInBounds_toArray, List.set_cons_zero, List.set_cons_succ, i64_w, i32_w]; rfl)))
            | (refine o_pure (v := ?_) (a' := ?_) rfl rfl (by rfl) ?_ ?_ ?_; rotate_left 2; (focus (intro w'; go_simp; with_reducible rfl)); (focus (simp only [Act.put, List.setIfInBounds_toArray, List.set_cons_zero, List.set_cons_succ, i64_w, i32_w]; rfl)))
            | (refine o_loadoff (a' := ?_) rfl rfl (by rfl) hS ?_ ?_; rotate_left; (focus (simp only [Act.put, List.setIfInBounds_toArray, List.set_cons_zero, List.set_cons_succ, i64_w, i32_w]; rfl)))
            | (refine o_load (v := ?_) (a' := ?_) rfl rfl (by rfl) hS ?_ ?_ ?_; rotate_left 2; (focus (rintro w' ⟨_, i0, ab⟩; have c0 := i0.c0; have d0 := i0.c1; have a0 := ab.c0; have a1 := ab.c1; have a2 := ab.c2; have a3 := ab.c3; have a4 := ab.c4; go_simp; with_reducible rfl)); (focus (simp only [Act.put, List.setIfInBounds_toArray, List.set_cons_zero, List.set_cons_succ, i64_w, i32_w]; rfl))))
          refine o_done ?_
          obtain ⟨hB, i0, ab⟩ := hS
          go_wp2
          go_roundw
          case rel => exact ⟨5, by omega, by omega, by go_num, Lib.hid ⟨hB, i0, ab⟩, Lib.hid (hN.out.step4 (fits_b hC))⟩
          case measure => simp [intOf]
        · cases hD : (wdo op n (n - 1) == 1)
          · go_wp2_with (go_at_call 17; refine (rdo_word _ _ _ o1 o2 _).mono ?_; rintro e w' ⟨rfl, rfl⟩)
            refine o_start (S := fun w' => PInv w w' p q n) (ds := []) (.cons 0 0 (.cons 1 0 (.cons 2 1 (.cons 3 0 (.cons 4 1 (.cons 5 0 (.cons 6 0 (.cons 7 0 (.cons 8 0 (.cons 9 1 (.cons 10 0 (.cons 11 1 (.cons 12 0 (.cons 13 0 (.cons 14 0 (.cons 15 0 (.cons 16 0 (.cons 17 0 (.cons 18 0 (.cons 19 0 .nil)))))))))))))))))))) (by kernel_rfl) (by kernel_rfl) (fun _ _ d _ _ h => by cases d <;> exact h) ⟨HB.out.drew, HI0.out.drew, HAB.out.drew⟩ (fun w1 hS => ?_)
            repeat' (first
              | (refine o_off (a' := ?_) rfl rfl (by rfl) ?_ ?_; rotate_left; (focus (simp only [Act.put, List.setIfInBounds_toArray, List.set_cons_zero, List.set_cons_succ, i64_w, i32_w]; rfl)))
              | (refine o_pure (v := ?_) (a' := ?_) rfl rfl (by rfl) ?_ ?_ ?_; rotate_left 2; (focus (intro w'; go_simp; with_reducible rfl)); (focus (simp only [Act.put, List.setIfInBounds_toArray, List.set_cons_zero, List.set_cons_succ, i64_w, i32_w]; rfl)))
              | (refine o_loadoff (a' := ?_) rfl rfl (by rfl) hS ?_ ?_; rotate_left; (focus (simp only [Act.put, List.setIfInBounds_toArray, List.set_cons_zero, List.set_cons_succ, i64_w, i32_w]; rfl)))
              | (refine o_load (v := ?_) (a' := ?_) rfl rfl (by rfl) hS ?_ ?_ ?_; rotate_left 2; (focus (rintro w' ⟨_, i0, ab⟩; have c0 := i0.c0; have d0 := i0.c1; have a0 := ab.c0; have a1 := ab.c1; have a2 := ab.c2; have a3 := ab.c3; have a4 := ab.c4; go_simp; with_reducible rfl)); (focus (simp only [Act.put, List.setIfInBounds_toArray, List.set_cons_zero, List.set_cons_succ, i64_w, i32_w]; rfl))))
            refine o_done ?_
            obtain ⟨hB, i0, ab⟩ := hS
            go_wp2
            go_roundw
            case rel => exact ⟨5, by omega, by omega, by go_num, Lib.hid ⟨hB, i0, ab⟩, Lib.hid (hN.out.step4 (fits_c hD rfl))⟩
            case measure => simp [intOf]
          · go_wp2_with (go_at_call 17; refine (rdo_word _ _ _ o1 o2 _).mono ?_; rintro e w' ⟨rfl, rfl⟩)
            refine o_start (S := fun w' => PInv w w' p q n) (ds := []) (.cons 0 0 (.cons 1 0 (.cons 2 1 (.cons 3 0 (.cons 4 1 (.cons 5 0 (.cons 6 0 (.cons 7 0 (.cons 8 0 (.cons 9 1 (.cons 10 0 (.cons 11 1 (.cons 12 0 (.cons 13 0 (.cons 14 0 (.cons 15 0 (.cons 16 0 (.cons 17 0 (.cons 18 0 (.cons 19 0 .nil)))))))))))))))))))) (by kernel_rfl) (by kernel_rfl) (fun _ _ d _ _ h => by cases d <;> exact h) ⟨HB.out.drew, HI0.out.drew, HAB.out.drew⟩ (fun w1 hS => ?_)
            repeat' (first
              | (refine o_off (a' := ?_) rfl rfl (by rfl) ?_ ?_; rotate_left; (focus (simp only [Act.put, List.setIfInBounds_toArray, List.set_cons_zero, List.set_cons_succ, i64_w, i32_w]; rfl)))
              | (refine o_pure (v := ?_) (a' := ?_) rfl rfl (by rfl) ?_ ?_ ?_; rotate_left 2; (focus (intro w'; go_simp; with_reducible rfl)); (focus (simp only [Act.put, List.setIfInBounds_toArray, List.set_cons_zero, List.set_cons_succ, i64_w, i32_w]; rfl)))
              | (refine o_loadoff (a' := ?_) rfl rfl (by rfl) hS ?_ ?_; rotate_left; (focus (simp only [Act.put, List.setIfInBounds_toArray, List.set_cons_zero, List.set_cons_succ, i64_w, i32_w]; rfl)))
              | (refine o_load (v := ?_) (a' := ?_) rfl rfl (by rfl) hS ?_ ?_ ?_; rotate_left 2; (focus (rintro w' ⟨_, i0, ab⟩; have c0 := i0.c0; have d0 := i0.c1; have a0 := ab.c0; have a1 := ab.c1; have a2 := ab.c2; have a3 := ab.c3; have a4 := ab.c4; go_simp; with_reducible rfl)); (focus (simp only [Act.put, List.setIfInBounds_toArray, List.set_cons_zero, List.set_cons_succ, i64_w, i32_w]; rfl))))
            refine o_done ?_
            obtain ⟨hB, i0, ab⟩ := hS
            go_wp2
            go_ret
            exact ⟨rfl, hB⟩
    · exfalso
      have h := hN.out
      rcases HG.out with g | g | g | g | g
      · rw [h.a0 (by omega)] at g; cases g
      · rw [h.a1 (by omega)] at g; cases g
      · rw [h.a2 (by omega)] at g; cases g
      · rw [h.a3 (by omega)] at g; cases g
      · rw [h.a4 (by omega)] at g; cases g
theorem partner_false (op n p q : Int) (o1 : 1 ≤ op) (o2 : op ≤ 14) (n0 : -2147483649 ≤ n) (n1 : n ≤ 2147483648) (hg : (fits op false n p q p = true ∨ fits op false n p q q = true ∨ fits op false n p q n = true ∨ fits op false n p q (n + 1) = true ∨ fits op false n p q (n - 1) = true)) (w : World) :
    Calls Try.prog 23 #[.int .i64 op, .bool false, .int .i64 n, .agg #[.int .i64 p, .int .i64 q]] w fun e w' => e = .returned (.bool true) ∧ Below w.heap.size w w' := by
  have v0 : wrap64 (n + 1) = n + 1 := w64_in (by omega) (by omega)
  have v1 : wrap64 (n - 1) = n - 1 := w64_in (by omega) (by omega)
  have HG := Lib.hid hg; clear hg
  go_enter Try.func23, Try.ntmps23
  go_wp2
  go_loopw [10] (fun i wr => ∃ k : Int, 0 ≤ k ∧ k ≤ 5 ∧ i = .int .i64 k ∧ Hid (PInv w wr p q n) ∧ Hid (NotYet op false n p q k)) (fun i _ => (5 - intOf i).toNat)
  case atStart => exact ⟨0, by omega, by omega, rfl, Lib.hid ⟨((below_alloc w _)).alloc (by simp) _, (IB.new w p q).alloc _, AB.at (by simp)⟩, Lib.hid ⟨fun h => by omega, fun h => by omega, fun h => by omega, fun h => by omega, fun h => by omega⟩⟩
  case round =>
    obtain ⟨k, k0, k5, rfl, hI, hN⟩ := hrel
    obtain ⟨hB, i0, ab⟩ := hI.out
    have c0 := i0.c0; have d0 := i0.c1; have a0 := ab.c0; have a1 := ab.c1; have a2 := ab.c2; have a3 := ab.c3; have a4 := ab.c4
    have HB := Lib.hid hB; have HI0 := Lib.hid i0; have HAB := Lib.hid ab
    clear hB i0 ab hI
    rcases (show k = 0 ∨ k = 1 ∨ k = 2 ∨ k = 3 ∨ k = 4 ∨ k = 5 by omega) with rfl | rfl | rfl | rfl | rfl | rfl
    · cases hA : decide (p ≤ p)
      · exact absurd hA (by simp)
      · cases hC : decide (p ≤ q)
        · go_wp2_with (go_at_call 17; refine (rdo_word _ _ _ o1 o2 _).mono ?_; rintro e w' ⟨rfl, rfl⟩)
          refine o_start (S := fun w' => PInv w w' p q n) (ds := []) (.cons 0 0 (.cons 1 0 (.cons 2 1 (.cons 3 0 (.cons 4 1 (.cons 5 0 (.cons 6 0 (.cons 7 0 (.cons 8 0 (.cons 9 1 (.cons 10 0 (.cons 11 1 (.cons 12 0 (.cons 13 0 (.cons 14 0 (.cons 15 0 (.cons 16 0 (.cons 17 0 (.cons 18 0 (.cons 19 0 .nil)))))))))))))))))))) (by kernel_rfl) (by kernel_rfl) (fun _ _ d _ _ h => by cases d <;> exact h) ⟨HB.out.drew, HI0.out.drew, HAB.out.drew⟩ (fun w1 hS => ?_)
          repeat' (first
            | (refine o_off (a' := ?_) rfl rfl (by rfl) ?_ ?_; rotate_left; (focus (simp only [Act.put, List.setIfInBounds_toArray, List.set_cons_zero, List.set_cons_succ, i64_w, i32_w]; rfl)))
            | (refine o_pure (v := ?_) (a' := ?_) rfl rfl (by rfl) ?_ ?_ ?_; rotate_left 2; (focus (intro w'; go_simp; with_reducible rfl)); (focus (simp only [Act.put, List.setIfInBounds_toArray, List.set_cons_zero, List.set_cons_succ, i64_w, i32_w]; rfl)))
            | (refine o_loadoff (a' := ?_) rfl rfl (by rfl) hS ?_ ?_; rotate_left; (focus (simp only [Act.put, List.setIfInBounds_toArray, List.set_cons_zero, List.set_cons_succ, i64_w, i32_w]; rfl)))
            | (refine o_load (v := ?_) (a' := ?_) rfl rfl (by rfl) hS ?_ ?_ ?_; rotate_left 2; (focus (rintro w' ⟨_, i0, ab⟩; have c0 := i0.c0; have d0 := i0.c1; have a0 := ab.c0; have a1 := ab.c1; have a2 := ab.c2; have a3 := ab.c3; have a4 := ab.c4; go_simp; with_reducible rfl)); (focus (simp only [Act.put, List.setIfInBounds_toArray, List.set_cons_zero, List.set_cons_succ, i64_w, i32_w]; rfl))))
          refine o_done ?_
          obtain ⟨hB, i0, ab⟩ := hS
          go_wp2
          go_roundw
          case rel => exact ⟨1, by omega, by omega, by go_num, Lib.hid ⟨hB, i0, ab⟩, Lib.hid (hN.out.step0 (fits_b hC))⟩
          case measure => simp [intOf]
        · cases hD : (wdo op n p == 1)
          · go_wp2_with (go_at_call 17; refine (rdo_word _ _ _ o1 o2 _).mono ?_; rintro e w' ⟨rfl, rfl⟩)
            refine o_start (S := fun w' => PInv w w' p q n) (ds := []) (.cons 0 0 (.cons 1 0 (.cons 2 1 (.cons 3 0 (.cons 4 1 (.cons 5 0 (.cons 6 0 (.cons 7 0 (.cons 8 0 (.cons 9 1 (.cons 10 0 (.cons 11 1 (.cons 12 0 (.cons 13 0 (.cons 14 0 (.cons 15 0 (.cons 16 0 (.cons 17 0 (.cons 18 0 (.cons 19 0 .nil)))))))))))))))))))) (by kernel_rfl) (by kernel_rfl) (fun _ _ d _ _ h => by cases d <;> exact h) ⟨HB.out.drew, HI0.out.drew, HAB.out.drew⟩ (fun w1 hS => ?_)
            repeat' (first
              | (refine o_off (a' := ?_) rfl rfl (by rfl) ?_ ?_; rotate_left; (focus (simp only [Act.put, List.setIfInBounds_toArray, List.set_cons_zero, List.set_cons_succ, i64_w, i32_w]; rfl)))
              | (refine o_pure (v := ?_) (a' := ?_) rfl rfl (by rfl) ?_ ?_ ?_; rotate_left 2; (focus (intro w'; go_simp; with_reducible rfl)); (focus (simp only [Act.put, List.setIfInBounds_toArray, List.set_cons_zero, List.set_cons_succ, i64_w, i32_w]; rfl)))
              | (refine o_loadoff (a' := ?_) rfl rfl (by rfl) hS ?_ ?_; rotate_left; (focus (simp only [Act.put, List.setIfInBounds_toArray, List.set_cons_zero, List.set_cons_succ, i64_w, i32_w]; rfl)))
              | (refine o_load (v := ?_) (a' := ?_) rfl rfl (by rfl) hS ?_ ?_ ?_; rotate_left 2; (focus (rintro w' ⟨_, i0, ab⟩; have c0 := i0.c0; have d0 := i0.c1; have a0 := ab.c0; have a1 := ab.c1; have a2 := ab.c2; have a3 := ab.c3; have a4 := ab.c4; go_simp; with_reducible rfl)); (focus (simp only [Act.put, List.setIfInBounds_toArray, List.set_cons_zero, List.set_cons_succ, i64_w, i32_w]; rfl))))
            refine o_done ?_
            obtain ⟨hB, i0, ab⟩ := hS
            go_wp2
            go_ret
            exact ⟨rfl, hB⟩
          · go_wp2_with (go_at_call 17; refine (rdo_word _ _ _ o1 o2 _).mono ?_; rintro e w' ⟨rfl, rfl⟩)
            refine o_start (S := fun w' => PInv w w' p q n) (ds := []) (.cons 0 0 (.cons 1 0 (.cons 2 1 (.cons 3 0 (.cons 4 1 (.cons 5 0 (.cons 6 0 (.cons 7 0 (.cons 8 0 (.cons 9 1 (.cons 10 0 (.cons 11 1 (.cons 12 0 (.cons 13 0 (.cons 14 0 (.cons 15 0 (.cons 16 0 (.cons 17 0 (.cons 18 0 (.cons 19 0 .nil)))))))))))))))))))) (by kernel_rfl) (by kernel_rfl) (fun _ _ d _ _ h => by cases d <;> exact h) ⟨HB.out.drew, HI0.out.drew, HAB.out.drew⟩ (fun w1 hS => ?_)
            repeat' (first
              | (refine o_off (a' := ?_) rfl rfl (by rfl) ?_ ?_; rotate_left; (focus (simp only [Act.put, List.setIfInBounds_toArray, List.set_cons_zero, List.set_cons_succ, i64_w, i32_w]; rfl)))
              | (refine o_pure (v := ?_) (a' := ?_) rfl rfl (by rfl) ?_ ?_ ?_; rotate_left 2; (focus (intro w'; go_simp; with_reducible rfl)); (focus (simp only [Act.put, List.setIfInBounds_toArray, List.set_cons_zero, List.set_cons_succ, i64_w, i32_w]; rfl)))
              | (refine o_loadoff (a' := ?_) rfl rfl (by rfl) hS ?_ ?_; rotate_left; (focus (simp only [Act.put, List.setIfInBounds_toArray, List.set_cons_zero, List.set_cons_succ, i64_w, i32_w]; rfl)))
              | (refine o_load (v := ?_) (a' := ?_) rfl rfl (by rfl) hS ?_ ?_ ?_; rotate_left 2; (focus (rintro w' ⟨_, i0, ab⟩; have c0 := i0.c0; have d0 := i0.c1; have a0 := ab.c0; have a1 := ab.c1; have a2 := ab.c2; have a3 := ab.c3; have a4 := ab.c4; go_simp; with_reducible rfl)); (focus (simp only [Act.put, List.setIfInBounds_toArray, List.set_cons_zero, List.set_cons_succ, i64_w, i32_w]; rfl))))
            refine o_done ?_
            obtain ⟨hB, i0, ab⟩ := hS
            go_wp2
            go_roundw
            case rel => exact ⟨1, by omega, by omega, by go_num, Lib.hid ⟨hB, i0, ab⟩, Lib.hid (hN.out.step0 (fits_c hD rfl))⟩
            case measure => simp [intOf]
    · cases hA : decide (p ≤ q)
      · go_wp2_with (go_at_call 17; refine (rdo_word _ _ _ o1 o2 _).mono ?_; rintro e w' ⟨rfl, rfl⟩)
        refine o_start (S := fun w' => PInv w w' p q n) (ds := []) (.cons 0 0 (.cons 1 0 (.cons 2 1 (.cons 3 0 (.cons 4 1 (.cons 5 0 (.cons 6 0 (.cons 7 0 (.cons 8 0 (.cons 9 1 (.cons 10 0 (.cons 11 1 (.cons 12 0 (.cons 13 0 (.cons 14 0 (.cons 15 0 (.cons 16 0 (.cons 17 0 (.cons 18 0 (.cons 19 0 .nil)))))))))))))))))))) (by kernel_rfl) (by kernel_rfl) (fun _ _ d _ _ h => by cases d <;> exact h) ⟨HB.out.drew, HI0.out.drew, HAB.out.drew⟩ (fun w1 hS => ?_)
        repeat' (first
          | (refine o_off (a' := ?_) rfl rfl (by rfl) ?_ ?_; rotate_left; (focus (simp only [Act.put, List.setIfInBounds_toArray, List.set_cons_zero, List.set_cons_succ, i64_w, i32_w]; rfl)))
          | (refine o_pure (v := ?_) (a' := ?_) rfl rfl (by rfl) ?_ ?_ ?_; rotate_left 2; (focus (intro w'; go_simp; with_reducible rfl)); (focus (simp only [Act.put, List.setIfInBounds_toArray, List.set_cons_zero, List.set_cons_succ, i64_w, i32_w]; rfl)))
          | (refine o_loadoff (a' := ?_) rfl rfl (by rfl) hS ?_ ?_; rotate_left; (focus (simp only [Act.put, List.setIfInBounds_toArray, List.set_cons_zero, List.set_cons_succ, i64_w, i32_w]; rfl)))
          | (refine o_load (v := ?_) (a' := ?_) rfl rfl (by rfl) hS ?_ ?_ ?_; rotate_left 2; (focus (rintro w' ⟨_, i0, ab⟩; have c0 := i0.c0; have d0 := i0.c1; have a0 := ab.c0; have a1 := ab.c1; have a2 := ab.c2; have a3 := ab.c3; have a4 := ab.c4; go_simp; with_reducible rfl)); (focus (simp only [Act.put, List.setIfInBounds_toArray, List.set_cons_zero, List.set_cons_succ, i64_w, i32_w]; rfl))))
        refine o_done ?_
        obtain ⟨hB, i0, ab⟩ := hS
        go_wp2
        go_roundw
        case rel => exact ⟨2, by omega, by omega, by go_num, Lib.hid ⟨hB, i0, ab⟩, Lib.hid (hN.out.step1 (fits_a hA))⟩
        case measure => simp [intOf]
      · cases hC : decide (q ≤ q)
        · exact absurd hC (by simp)
        · cases hD : (wdo op n q == 1)
          · go_wp2_with (go_at_call 17; refine (rdo_word _ _ _ o1 o2 _).mono ?_; rintro e w' ⟨rfl, rfl⟩)
            refine o_start (S := fun w' => PInv w w' p q n) (ds := []) (.cons 0 0 (.cons 1 0 (.cons 2 1 (.cons 3 0 (.cons 4 1 (.cons 5 0 (.cons 6 0 (.cons 7 0 (.cons 8 0 (.cons 9 1 (.cons 10 0 (.cons 11 1 (.cons 12 0 (.cons 13 0 (.cons 14 0 (.cons 15 0 (.cons 16 0 (.cons 17 0 (.cons 18 0 (.cons 19 0 .nil)))))))))))))))))))) (by kernel_rfl) (by kernel_rfl) (fun _ _ d _ _ h => by cases d <;> exact h) ⟨HB.out.drew, HI0.out.drew, HAB.out.drew⟩ (fun w1 hS => ?_)
            repeat' (first
              | (refine o_off (a' := ?_) rfl rfl (by rfl) ?_ ?_; rotate_left; (focus (simp only [Act.put, List.setIfInBounds_toArray, List.set_cons_zero, List.set_cons_succ, i64_w, i32_w]; rfl)))
              | (refine o_pure (v := ?_) (a' := ?_) rfl rfl (by rfl) ?_ ?_ ?_; rotate_left 2; (focus (intro w'; go_simp; with_reducible rfl)); (focus (simp only [Act.put, List.setIfInBounds_toArray, List.set_cons_zero, List.set_cons_succ, i64_w, i32_w]; rfl)))
              | (refine o_loadoff (a' := ?_) rfl rfl (by rfl) hS ?_ ?_; rotate_left; (focus (simp only [Act.put, List.setIfInBounds_toArray, List.set_cons_zero, List.set_cons_succ, i64_w, i32_w]; rfl)))
              | (refine o_load (v := ?_) (a' := ?_) rfl rfl (by rfl) hS ?_ ?_ ?_; rotate_left 2; (focus (rintro w' ⟨_, i0, ab⟩; have c0 := i0.c0; have d0 := i0.c1; have a0 := ab.c0; have a1 := ab.c1; have a2 := ab.c2; have a3 := ab.c3; have a4 := ab.c4; go_simp; with_reducible rfl)); (focus (simp only [Act.put, List.setIfInBounds_toArray, List.set_cons_zero, List.set_cons_succ, i64_w, i32_w]; rfl))))
            refine o_done ?_
            obtain ⟨hB, i0, ab⟩ := hS
            go_wp2
            go_ret
            exact ⟨rfl, hB⟩
          · go_wp2_with (go_at_call 17; refine (rdo_word _ _ _ o1 o2 _).mono ?_; rintro e w' ⟨rfl, rfl⟩)
            refine o_start (S := fun w' => PInv w w' p q n) (ds := []) (.cons 0 0 (.cons 1 0 (.cons 2 1 (.cons 3 0 (.cons 4 1 (.cons 5 0 (.cons 6 0 (.cons 7 0 (.cons 8 0 (.cons 9 1 (.cons 10 0 (.cons 11 1 (.cons 12 0 (.cons 13 0 (.cons 14 0 (.cons 15 0 (.cons 16 0 (.cons 17 0 (.cons 18 0 (.cons 19 0 .nil)))))))))))))))))))) (by kernel_rfl) (by kernel_rfl) (fun _ _ d _ _ h => by cases d <;> exact h) ⟨HB.out.drew, HI0.out.drew, HAB.out.drew⟩ (fun w1 hS => ?_)
            repeat' (first
              | (refine o_off (a' := ?_) rfl rfl (by rfl) ?_ ?_; rotate_left; (focus (simp only [Act.put, List.setIfInBounds_toArray, List.set_cons_zero, List.set_cons_succ, i64_w, i32_w]; rfl)))
              | (refine o_pure (v := ?_) (a' := ?_) rfl rfl (by rfl) ?_ ?_ ?_; rotate_left 2; (focus (intro w'; go_simp; with_reducible rfl)); (focus (simp only [Act.put, List.setIfInBounds_toArray, List.set_cons_zero, List.set_cons_succ, i64_w, i32_w]; rfl)))
              | (refine o_loadoff (a' := ?_) rfl rfl (by rfl) hS ?_ ?_; rotate_left; (focus (simp only [Act.put, List.setIfInBounds_toArray, List.set_cons_zero, List.set_cons_succ, i64_w, i32_w]; rfl)))
              | (refine o_load (v := ?_) (a' := ?_) rfl rfl (by rfl) hS ?_ ?_ ?_; rotate_left 2; (focus (rintro w' ⟨_, i0, ab⟩; have c0 := i0.c0; have d0 := i0.c1; have a0 := ab.c0; have a1 := ab.c1; have a2 := ab.c2; have a3 := ab.c3; have a4 := ab.c4; go_simp; with_reducible rfl)); (focus (simp only [Act.put, List.setIfInBounds_toArray, List.set_cons_zero, List.set_cons_succ, i64_w, i32_w]; rfl))))
            refine o_done ?_
            obtain ⟨hB, i0, ab⟩ := hS
            go_wp2
            go_roundw
            case rel => exact ⟨2, by omega, by omega, by go_num, Lib.hid ⟨hB, i0, ab⟩, Lib.hid (hN.out.step1 (fits_c hD rfl))⟩
            case measure => simp [intOf]
    · cases hA : decide (p ≤ n)
      · go_wp2_with (go_at_call 17; refine (rdo_word _ _ _ o1 o2 _).mono ?_; rintro e w' ⟨rfl, rfl⟩)
        refine o_start (S := fun w' => PInv w w' p q n) (ds := []) (.cons 0 0 (.cons 1 0 (.cons 2 1 (.cons 3 0 (.cons 4 1 (.cons 5 0 (.cons 6 0 (.cons 7 0 (.cons 8 0 (.cons 9 1 (.cons 10 0 (.cons 11 1 (.cons 12 0 (.cons 13 0 (.cons 14 0 (.cons 15 0 (.cons 16 0 (.cons 17 0 (.cons 18 0 (.cons 19 0 .nil)))))))))))))))))))) (by kernel_rfl) (by kernel_rfl) (fun _ _ d _ _ h => by cases d <;> exact h) ⟨HB.out.drew, HI0.out.drew, HAB.out.drew⟩ (fun w1 hS => ?_)
        repeat' (first
          | (refine o_off (a' := ?_) rfl rfl (by rfl) ?_ ?_; rotate_left; (focus (simp only [Act.put, List.setIfInBounds_toArray, List.set_cons_zero, List.set_cons_succ, i64_w, i32_w]; rfl)))
          | (refine o_pure (v := ?_) (a' := ?_) rfl rfl (by rfl) ?_ ?_ ?_; rotate_left 2; (focus (intro w'; go_simp; with_reducible rfl)); (focus (simp only [Act.put, List.setIfInBounds_toArray, List.set_cons_zero, List.set_cons_succ, i64_w, i32_w]; rfl)))
          | (refine o_loadoff (a' := ?_) rfl rfl (by rfl) hS ?_ ?_; rotate_left; (focus (simp only [Act.put, List.setIfInBounds_toArray, List.set_cons_zero, List.set_cons_succ, i64_w, i32_w]; rfl)))
          | (refine o_load (v := ?_) (a' := ?_) rfl rfl (by rfl) hS ?_ ?_ ?_; rotate_left 2; (focus (rintro w' ⟨_, i0, ab⟩; have c0 := i0.c0; have d0 := i0.c1; have a0 := ab.c0; have a1 := ab.c1; have a2 := ab.c2; have a3 := ab.c3; have a4 := ab.c4; go_simp; with_reducible rfl)); (focus (simp only [Act.put, List.setIfInBounds_toArray, List.set_cons_zero, List.set_cons_succ, i64_w, i32_w]; rfl))))
        refine o_done ?_
        obtain ⟨hB, i0, ab⟩ := hS
        go_wp2
        go_roundw
        case rel => exact ⟨3, by omega, by omega, by go_num, Lib.hid ⟨hB, i0, ab⟩, Lib.hid (hN.out.step2 (fits_a hA))⟩
        case measure => simp [intOf]
      · cases hC : decide (n ≤ q)
        · go_wp2_with (go_at_call 17; refine (rdo_word _ _ _ o1 o2 _).mono ?_; rintro e w' ⟨rfl, rfl⟩)
          refine o_start (S := fun w' => PInv w w' p q n) (ds := []) (.cons 0 0 (.cons 1 0 (.cons 2 1 (.cons 3 0 (.cons 4 1 (.cons 5 0 (.cons 6 0 (.cons 7 0 (.cons 8 0 (.cons 9 1 (.cons 10 0 (.cons 11 1 (.cons 12 0 (.cons 13 0 (.cons 14 0 (.cons 15 0 (.cons 16 0 (.cons 17 0 (.cons 18 0 (.cons 19 0 .nil)))))))))))))))))))) (by kernel_rfl) (by kernel_rfl) (fun _ _ d _ _ h => by cases d <;> exact h) ⟨HB.out.drew, HI0.out.drew, HAB.out.drew⟩ (fun w1 hS => ?_)
          repeat' (first
            | (refine o_off (a' := ?_) rfl rfl (by rfl) ?_ ?_; rotate_left; (focus (simp only [Act.put, List.setIfInBounds_toArray, List.set_cons_zero, List.set_cons_succ, i64_w, i32_w]; rfl)))
            | (refine o_pure (v := ?_) (a' := ?_) rfl rfl (by rfl) ?_ ?_ ?_; rotate_left 2; (focus (intro w'; go_simp; with_reducible rfl)); (focus (simp only [Act.put, List.setIfInBounds_toArray, List.set_cons_zero, List.set_cons_succ, i64_w, i32_w]; rfl)))
            | (refine o_loadoff (a' := ?_) rfl rfl (by rfl) hS ?_ ?_; rotate_left; (focus (simp only [Act.put, List.setIfInBounds_toArray, List.set_cons_zero, List.set_cons_succ, i64_w, i32_w]; rfl)))
            | (refine o_load (v := ?_) (a' := ?_) rfl rfl (by rfl) hS ?_ ?_ ?_; rotate_left 2; (focus (rintro w' ⟨_, i0, ab⟩; have c0 := i0.c0; have d0 := i0.c1; have a0 := ab.c0; have a1 := ab.c1; have a2 := ab.c2; have a3 := ab.c3; have a4 := ab.c4; go_simp; with_reducible rfl)); (focus (simp only [Act.put, List.setIfInBounds_toArray, List.set_cons_zero, List.set_cons_succ, i64_w, i32_w]; rfl))))
          refine o_done ?_
          obtain ⟨hB, i0, ab⟩ := hS
          go_wp2
          go_roundw
          case rel => exact ⟨3, by omega, by omega, by go_num, Lib.hid ⟨hB, i0, ab⟩, Lib.hid (hN.out.step2 (fits_b hC))⟩
          case measure => simp [intOf]
        · cases hD : (wdo op n n == 1)
          · go_wp2_with (go_at_call 17; refine (rdo_word _ _ _ o1 o2 _).mono ?_; rintro e w' ⟨rfl, rfl⟩)
            refine o_start (S := fun w' => PInv w w' p q n) (ds := []) (.cons 0 0 (.cons 1 0 (.cons 2 1 (.cons 3 0 (.cons 4 1 (.cons 5 0 (.cons 6 0 (.cons 7 0 (.cons 8 0 (.cons 9 1 (.cons 10 0 (.cons 11 1 (.cons 12 0 (.cons 13 0 (.cons 14 0 (.cons 15 0 (.cons 16 0 (.cons 17 0 (.cons 18 0 (.cons 19 0 .nil)))))))))))))))))))) (by kernel_rfl) (by kernel_rfl) (fun _ _ d _ _ h => by cases d <;> exact h) ⟨HB.out.drew, HI0.out.drew, HAB.out.drew⟩ (fun w1 hS => ?_)
            repeat' (first
              | (refine o_off (a' := ?_) rfl rfl (by rfl) ?_ ?_; rotate_left; (focus (simp only [Act.put, List.setIfInBounds_toArray, List.set_cons_zero, List.set_cons_succ, i64_w, i32_w]; rfl)))
              | (refine o_pure (v := ?_) (a' := ?_) rfl rfl (by rfl) ?_ ?_ ?_; rotate_left 2; (focus (intro w'; go_simp; with_reducible rfl)); (focus (simp only [Act.put, List.setIfInBounds_toArray, List.set_cons_zero, List.set_cons_succ, i64_w, i32_w]; rfl)))
              | (refine o_loadoff (a' := ?_) rfl rfl (by rfl) hS ?_ ?_; rotate_left; (focus (simp only [Act.put, List.setIfInBounds_toArray, List.set_cons_zero, List.set_cons_succ, i64_w, i32_w]; rfl)))
              | (refine o_load (v := ?_) (a' := ?_) rfl rfl (by rfl) hS ?_ ?_ ?_; rotate_left 2; (focus (rintro w' ⟨_, i0, ab⟩; have c0 := i0.c0; have d0 := i0.c1; have a0 := ab.c0; have a1 := ab.c1; have a2 := ab.c2; have a3 := ab.c3; have a4 := ab.c4; go_simp; with_reducible rfl)); (focus (simp only [Act.put, List.setIfInBounds_toArray, List.set_cons_zero, List.set_cons_succ, i64_w, i32_w]; rfl))))
            refine o_done ?_
            obtain ⟨hB, i0, ab⟩ := hS
            go_wp2
            go_ret
            exact ⟨rfl, hB⟩
          · go_wp2_with (go_at_call 17; refine (rdo_word _ _ _ o1 o2 _).mono ?_; rintro e w' ⟨rfl, rfl⟩)
            refine o_start (S := fun w' => PInv w w' p q n) (ds := []) (.cons 0 0 (.cons 1 0 (.cons 2 1 (.cons 3 0 (.cons 4 1 (.cons 5 0 (.cons 6 0 (.cons 7 0 (.cons 8 0 (.cons 9 1 (.cons 10 0 (.cons 11 1 (.cons 12 0 (.cons 13 0 (.cons 14 0 (.cons 15 0 (.cons 16 0 (.cons 17 0 (.cons 18 0 (.cons 19 0 .nil)))))))))))))))))))) (by kernel_rfl) (by kernel_rfl) (fun _ _ d _ _ h => by cases d <;> exact h) ⟨HB.out.drew, HI0.out.drew, HAB.out.drew⟩ (fun w1 hS => ?_)
            repeat' (first
              | (refine o_off (a' := ?_) rfl rfl (by rfl) ?_ ?_; rotate_left; (focus (simp only [Act.put, List.setIfInBounds_toArray, List.set_cons_zero, List.set_cons_succ, i64_w, i32_w]; rfl)))
              | (refine o_pure (v := ?_) (a' := ?_) rfl rfl (by rfl) ?_ ?_ ?_; rotate_left 2; (focus (intro w'; go_simp; with_reducible rfl)); (focus (simp only [Act.put, List.setIfInBounds_toArray, List.set_cons_zero, List.set_cons_succ, i64_w, i32_w]; rfl)))
              | (refine o_loadoff (a' := ?_) rfl rfl (by rfl) hS ?_ ?_; rotate_left; (focus (simp only [Act.put, List.setIfInBounds_toArray, List.set_cons_zero, List.set_cons_succ, i64_w, i32_w]; rfl)))
              | (refine o_load (v := ?_) (a' := ?_) rfl rfl (by rfl) hS ?_ ?_ ?_; rotate_left 2; (focus (rintro w' ⟨_, i0, ab⟩; have c0 := i0.c0; have d0 := i0.c1; have a0 := ab.c0; have a1 := ab.c1; have a2 := ab.c2; have a3 := ab.c3; have a4 := ab.c4; go_simp; with_reducible rfl)); (focus (simp only [Act.put, List.setIfInBounds_toArray, List.set_cons_zero, List.set_cons_succ, i64_w, i32_w]; rfl))))
            refine o_done ?_
            obtain ⟨hB, i0, ab⟩ := hS
            go_wp2
            go_roundw
            case rel => exact ⟨3, by omega, by omega, by go_num, Lib.hid ⟨hB, i0, ab⟩, Lib.hid (hN.out.step2 (fits_c hD rfl))⟩
            case measure => simp [intOf]
    · cases hA : decide (p ≤ (n + 1))
      · go_wp2_with (go_at_call 17; refine (rdo_word _ _ _ o1 o2 _).mono ?_; rintro e w' ⟨rfl, rfl⟩)
        refine o_start (S := fun w' => PInv w w' p q n) (ds := []) (.cons 0 0 (.cons 1 0 (.cons 2 1 (.cons 3 0 (.cons 4 1 (.cons 5 0 (.cons 6 0 (.cons 7 0 (.cons 8 0 (.cons 9 1 (.cons 10 0 (.cons 11 1 (.cons 12 0 (.cons 13 0 (.cons 14 0 (.cons 15 0 (.cons 16 0 (.cons 17 0 (.cons 18 0 (.cons 19 0 .nil)))))))))))))))))))) (by kernel_rfl) (by kernel_rfl) (fun _ _ d _ _ h => by cases d <;> exact h) ⟨HB.out.drew, HI0.out.drew, HAB.out.drew⟩ (fun w1 hS => ?_)
        repeat' (first
          | (refine o_off (a' := ?_) rfl rfl (by rfl) ?_ ?_; rotate_left; (focus (simp only [Act.put, List.setIfInBounds_toArray, List.set_cons_zero, List.set_cons_succ, i64_w, i32_w]; rfl)))
          | (refine o_pure (v := ?_) (a' := ?_) rfl rfl (by rfl) ?_ ?_ ?_; rotate_left 2; (focus (intro w'; go_simp; with_reducible rfl)); (focus (simp only [Act.put, List.setIfInBounds_toArray, List.set_cons_zero, List.set_cons_succ, i64_w, i32_w]; rfl)))
          | (refine o_loadoff (a' := ?_) rfl rfl (by rfl) hS ?_ ?_; rotate_left; (focus (simp only [Act.put, List.setIfInBounds_toArray, List.set_cons_zero, List.set_cons_succ, i64_w, i32_w]; rfl)))
          | (refine o_load (v := ?_) (a' := ?_) rfl rfl (by rfl) hS ?_ ?_ ?_; rotate_left 2; (focus (rintro w' ⟨_, i0, ab⟩; have c0 := i0.c0; have d0 := i0.c1; have a0 := ab.c0; have a1 := ab.c1; have a2 := ab.c2; have a3 := ab.c3; have a4 := ab.c4; go_simp; with_reducible rfl)); (focus (simp only [Act.put, List.setIfInBounds_toArray, List.set_cons_zero, List.set_cons_succ, i64_w, i32_w]; rfl))))
        refine o_done ?_
        obtain ⟨hB, i0, ab⟩ := hS
        go_wp2
        go_roundw
        case rel => exact ⟨4, by omega, by omega, by go_num, Lib.hid ⟨hB, i0, ab⟩, Lib.hid (hN.out.step3 (fits_a hA))⟩
        case measure => simp [intOf]
      · cases hC : decide ((n + 1) ≤ q)
        · go_wp2_with (go_at_call 17; refine (rdo_word _ _ _ o1 o2 _).mono ?_; rintro e w' ⟨rfl, rfl⟩)
          refine o_start (S := fun w' => PInv w w' p q n) (ds := []) (.cons 0 0 (.cons 1 0 (.cons 2 1 (.cons 3 0 (.cons 4 1 (.cons 5 0 (.cons 6 0 (.cons 7 0 (.cons 8 0 (.cons 9 1 (.cons 10 0 (.cons 11 1 (.cons 12 0 (.cons 13 0 (.cons 14 0 (.cons 15 0 (.cons 16 0 (.cons 17 0 (.cons 18 0 (.cons 19 0 .nil)))))))))))))))))))) (by kernel_rfl) (by kernel_rfl) (fun _ _ d _ _ h => by cases d <;> exact h) ⟨HB.out.drew, HI0.out.drew, HAB.out.drew⟩ (fun w1 hS => ?_)
          repeat' (first
            | (refine o_off (a' := ?_) rfl rfl (by rfl) ?_ ?_; rotate_left; (focus (simp only [Act.put, List.setIfInBounds_toArray, List.set_cons_zero, List.set_cons_succ, i64_w, i32_w]; rfl)))
            | (refine o_pure (v := ?_) (a' := ?_) rfl rfl (by rfl) ?_ ?_ ?_; rotate_left 2; (focus (intro w'; go_simp; with_reducible rfl)); (focus (simp only [Act.put, List.setIfInBounds_toArray, List.set_cons_zero, List.set_cons_succ, i64_w, i32_w]; rfl)))
            | (refine o_loadoff (a' := ?_) rfl rfl (by rfl) hS ?_ ?_; rotate_left; (focus (simp only [Act.put, List.setIfInBounds_toArray, List.set_cons_zero, List.set_cons_succ, i64_w, i32_w]; rfl)))
            | (refine o_load (v := ?_) (a' := ?_) rfl rfl (by rfl) hS ?_ ?_ ?_; rotate_left 2; (focus (rintro w' ⟨_, i0, ab⟩; have c0 := i0.c0; have d0 := i0.c1; have a0 := ab.c0; have a1 := ab.c1; have a2 := ab.c2; have a3 := ab.c3; have a4 := ab.c4; go_simp; with_reducible rfl)); (focus (simp only [Act.put, List.setIfInBounds_toArray, List.set_cons_zero, List.set_cons_succ, i64_w, i32_w]; rfl))))
          refine o_done ?_
          obtain ⟨hB, i0, ab⟩ := hS
          go_wp2
          go_roundw
          case rel => exact ⟨4, by omega, by omega, by go_num, Lib.hid ⟨hB, i0, ab⟩, Lib.hid (hN.out.step3 (fits_b hC))⟩
          case measure => simp [intOf]
        · cases hD : (wdo op n (n + 1) == 1)
          · go_wp2_with (go_at_call 17; refine (rdo_word _ _ _ o1 o2 _).mono ?_; rintro e w' ⟨rfl, rfl⟩)
            refine o_start (S := fun w' => PInv w w' p q n) (ds := []) (.cons 0 0 (.cons 1 0 (.cons 2 1 (.cons 3 0 (.cons 4 1 (.cons 5 0 (.cons 6 0 (.cons 7 0 (.cons 8 0 (.cons 9 1 (.cons 10 0 (.cons 11 1 (.cons 12 0 (.cons 13 0 (.cons 14 0 (.cons 15 0 (.cons 16 0 (.cons 17 0 (.cons 18 0 (.cons 19 0 .nil)))))))))))))))))))) (by kernel_rfl) (by kernel_rfl) (fun _ _ d _ _ h => by cases d <;> exact h) ⟨HB.out.drew, HI0.out.drew, HAB.out.drew⟩ (fun w1 hS => ?_)
            repeat' (first
              | (refine o_off (a' := ?_) rfl rfl (by rfl) ?_ ?_; rotate_left; (focus (simp only [Act.put, List.setIfInBounds_toArray, List.set_cons_zero, List.set_cons_succ, i64_w, i32_w]; rfl)))
              | (refine o_pure (v := ?_) (a' := ?_) rfl rfl (by rfl) ?_ ?_ ?_; rotate_left 2; (focus (intro w'; go_simp; with_reducible rfl)); (focus (simp only [Act.put, List.setIfInBounds_toArray, List.set_cons_zero, List.set_cons_succ, i64_w, i32_w]; rfl)))
              | (refine o_loadoff (a' := ?_) rfl rfl (by rfl) hS ?_ ?_; rotate_left; (focus (simp only [Act.put, List.setIfInBounds_toArray, List.set_cons_zero, List.set_cons_succ, i64_w, i32_w]; rfl)))
              | (refine o_load (v := ?_) (a' := ?_) rfl rfl (by rfl) hS ?_ ?_ ?_; rotate_left 2; (focus (rintro w' ⟨_, i0, ab⟩; have c0 := i0.c0; have d0 := i0.c1; have a0 := ab.c0; have a1 := ab.c1; have a2 := ab.c2; have a3 := ab.c3; have a4 := ab.c4; go_simp; with_reducible rfl)); (focus (simp only [Act.put, List.setIfInBounds_toArray, List.set_cons_zero, List.set_cons_succ, i64_w, i32_w]; rfl))))
            refine o_done ?_
            obtain ⟨hB, i0, ab⟩ := hS
            go_wp2
            go_ret
            exact ⟨rfl, hB⟩
          · go_wp2_with (go_at_call 17; refine (rdo_word _ _ _ o1 o2 _).mono ?_; rintro e w' ⟨rfl, rfl⟩)
            refine o_start (S := fun w' => PInv w w' p q n) (ds := []) (.cons 0 0 (.cons 1 0 (.cons 2 1 (.cons 3 0 (.cons 4 1 (.cons 5 0 (.cons 6 0 (.cons 7 0 (.cons 8 0 (.cons 9 1 (.cons 10 0 (.cons 11 1 (.cons 12 0 (.cons 13 0 (.cons 14 0 (.cons 15 0 (.cons 16 0 (.cons 17 0 (.cons 18 0 (.cons 19 0 .nil)))))))))))))))))))) (by kernel_rfl) (by kernel_rfl) (fun _ _ d _ _ h => by cases d <;> exact h) ⟨HB.out.drew, HI0.out.drew, HAB.out.drew⟩ (fun w1 hS => ?_)
            repeat' (first
              | (refine o_off (a' := ?_) rfl rfl (by rfl) ?_ ?_; rotate_left; (focus (simp only [Act.put, List.setIfInBounds_toArray, List.set_cons_zero, List.set_cons_succ, i64_w, i32_w]; rfl)))
              | (refine o_pure (v := ?_) (a' := ?_) rfl rfl (by rfl) ?_ ?_ ?_; rotate_left 2; (focus (intro w'; go_simp; with_reducible rfl)); (focus (simp only [Act.put, List.setIfInBounds_toArray, List.set_cons_zero, List.set_cons_succ, i64_w, i32_w]; rfl)))
              | (refine o_loadoff (a' := ?_) rfl rfl (by rfl) hS ?_ ?_; rotate_left; (focus (simp only [Act.put, List.setIfInBounds_toArray, List.set_cons_zero, List.set_cons_succ, i64_w, i32_w]; rfl)))
              | (refine o_load (v := ?_) (a' := ?_) rfl rfl (by rfl) hS ?_ ?_ ?_; rotate_left 2; (focus (rintro w' ⟨_, i0, ab⟩; have c0 := i0.c0; have d0 := i0.c1; have a0 := ab.c0; have a1 := ab.c1; have a2 := ab.c2; have a3 := ab.c3; have a4 := ab.c4; go_simp; with_reducible rfl)); (focus (simp only [Act.put, List.setIfInBounds_toArray, List.set_cons_zero, List.set_cons_succ, i64_w, i32_w]; rfl))))
            refine o_done ?_
            obtain ⟨hB, i0, ab⟩ := hS
            go_wp2
            go_roundw
            case rel => exact ⟨4, by omega, by omega, by go_num, Lib.hid ⟨hB, i0, ab⟩, Lib.hid (hN.out.step3 (fits_c hD rfl))⟩
            case measure => simp [intOf]
    · cases hA : decide (p ≤ (n - 1))
      · go_wp2_with (go_at_call 17; refine (rdo_word _ _ _ o1 o2 _).mono ?_; rintro e w' ⟨rfl, rfl⟩)
        refine o_start (S := fun w' => PInv w w' p q n) (ds := []) (.cons 0 0 (.cons 1 0 (.cons 2 1 (.cons 3 0 (.cons 4 1 (.cons 5 0 (.cons 6 0 (.cons 7 0 (.cons 8 0 (.cons 9 1 (.cons 10 0 (.cons 11 1 (.cons 12 0 (.cons 13 0 (.cons 14 0 (.cons 15 0 (.cons 16 0 (.cons 17 0 (.cons 18 0 (.cons 19 0 .nil)))))))))))))))))))) (by kernel_rfl) (by kernel_rfl) (fun _ _ d _ _ h => by cases d <;> exact h) ⟨HB.out.drew, HI0.out.drew, HAB.out.drew⟩ (fun w1 hS => ?_)
        repeat' (first
          | (refine o_off (a' := ?_) rfl rfl (by rfl) ?_ ?_; rotate_left; (focus (simp only [Act.put, List.setIfInBounds_toArray, List.set_cons_zero, List.set_cons_succ, i64_w, i32_w]; rfl)))
          | (refine o_pure (v := ?_) (a' := ?_) rfl rfl (by rfl) ?_ ?_ ?_; rotate_left 2; (focus (intro w'; go_simp; with_reducible rfl)); (focus (simp only [Act.put, List.setIfInBounds_toArray, List.set_cons_zero, List.set_cons_succ, i64_w, i32_w]; rfl)))
          | (refine o_loadoff (a' := ?_) rfl rfl (by rfl) hS ?_ ?_; rotate_left; (focus (simp only [Act.put, List.setIfInBounds_toArray, List.set_cons_zero, List.set_cons_succ, i64_w, i32_w]; rfl)))
          | (refine o_load (v := ?_) (a' := ?_) rfl rfl (by rfl) hS ?_ ?_ ?_; rotate_left 2; (focus (rintro w' ⟨_, i0, ab⟩; have c0 := i0.c0; have d0 := i0.c1; have a0 := ab.c0; have a1 := ab.c1; have a2 := ab.c2; have a3 := ab.c3; have a4 := ab.c4; go_simp; with_reducible rfl)); (focus (simp only [Act.put, List.setIfInBounds_toArray, List.set_cons_zero, List.set_cons_succ, i64_w, i32_w]; rfl))))
        refine o_done ?_
        obtain ⟨hB, i0, ab⟩ := hS
        go_wp2
        go_roundw
        case rel => exact ⟨5, by omega, by omega, by go_num, Lib.hid ⟨hB, i0, ab⟩, Lib.hid (hN.out.step4 (fits_a hA))⟩
        case measure => simp [intOf]
      · cases hC : decide ((n - 1) ≤ q)
        · go_wp2_with (go_at_call 17; refine (rdo_word _ _ _ o1 o2 _).mono ?_; rintro e w' ⟨rfl, rfl⟩)
          refine o_start (S := fun w' => PInv w w' p q n) (ds := []) (.cons 0 0 (.cons 1 0 (.cons 2 1 (.cons 3 0 (.cons 4 1 (.cons 5 0 (.cons 6 0 (.cons 7 0 (.cons 8 0 (.cons 9 1 (.cons 10 0 (.cons 11 1 (.cons 12 0 (.cons 13 0 (.cons 14 0 (.cons 15 0 (.cons 16 0 (.cons 17 0 (.cons 18 0 (.cons 19 0 .nil)))))))))))))))))))) (by kernel_rfl) (by kernel_rfl) (fun _ _ d _ _ h => by cases d <;> exact h) ⟨HB.out.drew, HI0.out.drew, HAB.out.drew⟩ (fun w1 hS => ?_)
          repeat' (first
            | (refine o_off (a' := ?_) rfl rfl (by rfl) ?_ ?_; rotate_left; (focus (simp only [Act.put, List.setIfInBounds_toArray, List.set_cons_zero, List.set_cons_succ, i64_w, i32_w]; rfl)))
            | (refine o_pure (v := ?_) (a' := ?_) rfl rfl (by rfl) ?_ ?_ ?_; rotate_left 2; (focus (intro w'; go_simp; with_reducible rfl)); (focus (simp only [Act.put, List.setIfInBounds_toArray, List.set_cons_zero, List.set_cons_succ, i64_w, i32_w]; rfl)))
            | (refine o_loadoff (a' := ?_) rfl rfl (by rfl) hS ?_ ?_; rotate_left; (focus (simp only [Act.put, List.setIfInBounds_toArray, List.set_cons_zero, List.set_cons_succ, i64_w, i32_w]; rfl)))
            | (refine o_load (v := ?_) (a' := ?_) rfl rfl (by rfl) hS ?_ ?_ ?_; rotate_left 2; (focus (rintro w' ⟨_, i0, ab⟩; have c0 := i0.c0; have d0 := i0.c1; have a0 := ab.c0; have a1 := ab.c1; have a2 := ab.c2; have a3 := ab.c3; have a4 := ab.c4; go_simp; with_reducible rfl)); (focus (simp only [Act.put, List.setIfInBounds_toArray, List.set_cons_zero, List.set_cons_succ, i64_w, i32_w]; rfl))))
          refine o_done ?_
          obtain ⟨hB, i0, ab⟩ := hS
          go_wp2
          go_roundw
          case rel => exact ⟨5, by omega, by omega, by go_num, Lib.hid ⟨hB, i0, ab⟩, Lib.hid (hN.out.step4 (fits_b hC))⟩
          case measure => simp [intOf]
        · cases hD : (wdo op n (n - 1) == 1)
          · go_wp2_with (go_at_call 17; refine (rdo_word _ _ _ o1 o2 _).mono ?_; rintro e w' ⟨rfl, rfl⟩)
            refine o_start (S := fun w' => PInv w w' p q n) (ds := []) (.cons 0 0 (.cons 1 0 (.cons 2 1 (.cons 3 0 (.cons 4 1 (.cons 5 0 (.cons 6 0 (.cons 7 0 (.cons 8 0 (.cons 9 1 (.cons 10 0 (.cons 11 1 (.cons 12 0 (.cons 13 0 (.cons 14 0 (.cons 15 0 (.cons 16 0 (.cons 17 0 (.cons 18 0 (.cons 19 0 .nil)))))))))))))))))))) (by kernel_rfl) (by kernel_rfl) (fun _ _ d _ _ h => by cases d <;> exact h) ⟨HB.out.drew, HI0.out.drew, HAB.out.drew⟩ (fun w1 hS => ?_)
            repeat' (first
              | (refine o_off (a' := ?_) rfl rfl (by rfl) ?_ ?_; rotate_left; (focus (simp only [Act.put, List.setIfInBounds_toArray, List.set_cons_zero, List.set_cons_succ, i64_w, i32_w]; rfl)))
              | (refine o_pure (v := ?_) (a' := ?_) rfl rfl (by rfl) ?_ ?_ ?_; rotate_left 2; (focus (intro w'; go_simp; with_reducible rfl)); (focus (simp only [Act.put, List.setIfInBounds_toArray, List.set_cons_zero, List.set_cons_succ, i64_w, i32_w]; rfl)))
              | (refine o_loadoff (a' := ?_) rfl rfl (by rfl) hS ?_ ?_; rotate_left; (focus (simp only [Act.put, List.setIfInBounds_toArray, List.set_cons_zero, List.set_cons_succ, i64_w, i32_w]; rfl)))
              | (refine o_load (v := ?_) (a' := ?_) rfl rfl (by rfl) hS ?_ ?_ ?_; rotate_left 2; (focus (rintro w' ⟨_, i0, ab⟩; have c0 := i0.c0; have d0 := i0.c1; have a0 := ab.c0; have a1 := ab.c1; have a2 := ab.c2; have a3 := ab.c3; have a4 := ab.c4; go_simp; with_reducible rfl)); (focus (simp only [Act.put, List.setIfInBounds_toArray, List.set_cons_zero, List.set_cons_succ, i64_w, i32_w]; rfl))))
            refine o_done ?_
            obtain ⟨hB, i0, ab⟩ := hS
            go_wp2
            go_ret
            exact ⟨rfl, hB⟩
          · go_wp2_with (go_at_call 17; refine (rdo_word _ _ _ o1 o2 _).mono ?_; rintro e w' ⟨rfl, rfl⟩)
            refine o_start (S := fun w' => PInv w w' p q n) (ds := []) (.cons 0 0 (.cons 1 0 (.cons 2 1 (.cons 3 0 (.cons 4 1 (.cons 5 0 (.cons 6 0 (.cons 7 0 (.cons 8 0 (.cons 9 1 (.cons 10 0 (.cons 11 1 (.cons 12 0 (.cons 13 0 (.cons 14 0 (.cons 15 0 (.cons 16 0 (.cons 17 0 (.cons 18 0 (.cons 19 0 .nil)))))))))))))))))))) (by kernel_rfl) (by kernel_rfl) (fun _ _ d _ _ h => by cases d <;> exact h) ⟨HB.out.drew, HI0.out.drew, HAB.out.drew⟩ (fun w1 hS => ?_)
            repeat' (first
              | (refine o_off (a' := ?_) rfl rfl (by rfl) ?_ ?_; rotate_left; (focus (simp only [Act.put, List.setIfInBounds_toArray, List.set_cons_zero, List.set_cons_succ, i64_w, i32_w]; rfl)))
              | (refine o_pure (v := ?_) (a' := ?_) rfl rfl (by rfl) ?_ ?_ ?_; rotate_left 2; (focus (intro w'; go_simp; with_reducible rfl)); (focus (simp only [Act.put, List.setIfInBounds_toArray, List.set_cons_zero, List.set_cons_succ, i64_w, i32_w]; rfl)))
              | (refine o_loadoff (a' := ?_) rfl rfl (by rfl) hS ?_ ?_; rotate_left; (focus (simp only [Act.put, List.setIfInBounds_toArray, List.set_cons_zero, List.set_cons_succ, i64_w, i32_w]; rfl)))
              | (refine o_load (v := ?_) (a' := ?_) rfl rfl (by rfl) hS ?_ ?_ ?_; rotate_left 2; (focus (rintro w' ⟨_, i0, ab⟩; have c0 := i0.c0; have d0 := i0.c1; have a0 := ab.c0; have a1 := ab.c1; have a2 := ab.c2; have a3 := ab.c3; have a4 := ab.c4; go_simp; with_reducible rfl)); (focus (simp only [Act.put, List.setIfInBounds_toArray, List.set_cons_zero, List.set_cons_succ, i64_w, i32_w]; rfl))))
            refine o_done ?_
            obtain ⟨hB, i0, ab⟩ := hS
            go_wp2
            go_roundw
            case rel => exact ⟨5, by omega, by omega, by go_num, Lib.hid ⟨hB, i0, ab⟩, Lib.hid (hN.out.step4 (fits_c hD rfl))⟩
            case measure => simp [intOf]
    · exfalso
      have h := hN.out
      rcases HG.out with g | g | g | g | g
      · rw [h.a0 (by omega)] at g; cases g
      · rw [h.a1 (by omega)] at g; cases g
      · rw [h.a2 (by omega)] at g; cases g
      · rw [h.a3 (by omega)] at g; cases g
      · rw [h.a4 (by omega)] at g; cases g
end Go.Proofs.Ytdooadomkifbbaa
