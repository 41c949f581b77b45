/-
  The walk of the law's helper 'of': an interval of two words. Conditions: the kinds of its arguments.
-/
import Derived.Test.YtdooadomkifbbaaWalksE
namespace Go.Proofs.Ytdooadomkifbbaa
open Go.RowKit
open Go.Proofs.YtdooadomkifbbaaW.PrintLast
attribute [local go_sem high] eqA23
attribute [local go_sem] max2_i min2_i max_2 min_2 max_4 min_4
set_option maxHeartbeats 2000000
set_option maxRecDepth 100000
set_option linter.unusedSimpArgs false
set_option linter.unusedVariables false
def endsF (x y : Int) : Int × Int := (mnI x y, mxI x y)
def ofF (a b h : Int) : Int × Int :=
  if h % 5 = 0 then endsF (a.tmod 20) (a.tmod 20 + b % 4294967296 % 12)
  else if h % 5 = 1 then endsF a a
  else if h % 5 = 2 then endsF (a.tmod 40) (a.tmod 40 + b % 4294967296 % 70000)
  else if h % 5 = 3 ∧ 240 < h then (1, 0)
  else endsF a b
theorem tmod_bd {a k : Int} (hk : 0 < k) : -k < a.tmod k ∧ a.tmod k < k := by
  have h1 : (a.tmod k).natAbs < k.natAbs := by
    rw [Int.natAbs_tmod]; exact Nat.mod_lt _ (by omega)
  omega
theorem of_0 (a b h : Int) (w : World) (a0 : -2147483648 ≤ a) (a1 : a ≤ 2147483647) (b0 : -2147483648 ≤ b) (b1 : b ≤ 2147483647) (h0 : 0 ≤ h) (h1 : h ≤ 255) (k : (h % 5 == 0) = true) : Calls Try.prog 15 #[.int .i32 a, .int .i32 b, .int .u8 h] w fun e w' => e = .returned (.agg #[.int .i64 (endsF (a.tmod 20) (a.tmod 20 + b % 4294967296 % 12)).1, .int .i64 (endsF (a.tmod 20) (a.tmod 20 + b % 4294967296 % 12)).2]) ∧ Below w.heap.size w w' := by
  have t0 := tmod_bd (a := a) (k := 20) (by omega)
  have hw : wrap64 (a.tmod 20 + b % 4294967296 % 12) = a.tmod 20 + b % 4294967296 % 12 := w64_in (by omega) (by omega)
  clear t0
  go_enter Try.func15, Try.ntmps15
  go_wp2
  exact bodyPost_ret (v := .agg #[.int .i64 (mnI (a.tmod 20) (a.tmod 20 + b % 4294967296 % 12)), .int .i64 (mxI (a.tmod 20) (a.tmod 20 + b % 4294967296 % 12))]) (by simp [results, Try.results15, go_sem]) rfl ⟨rfl, below_alloc _ _⟩
theorem of_1 (a b h : Int) (w : World) (a0 : -2147483648 ≤ a) (a1 : a ≤ 2147483647) (b0 : -2147483648 ≤ b) (b1 : b ≤ 2147483647) (h0 : 0 ≤ h) (h1 : h ≤ 255) (n0 : (h % 5 == 0) = false) (k : (h % 5 == 1) = true) : Calls Try.prog 15 #[.int .i32 a, .int .i32 b, .int .u8 h] w fun e w' => e = .returned (.agg #[.int .i64 (endsF (a) (a)).1, .int .i64 (endsF (a) (a)).2]) ∧ Below w.heap.size w w' := by
  go_enter Try.func15, Try.ntmps15
  go_wp2
  exact bodyPost_ret (v := .agg #[.int .i64 (mnI (a) (a)), .int .i64 (mxI (a) (a))]) (by simp [results, Try.results15, go_sem]) rfl ⟨rfl, below_alloc _ _⟩
theorem of_2 (a b h : Int) (w : World) (a0 : -2147483648 ≤ a) (a1 : a ≤ 2147483647) (b0 : -2147483648 ≤ b) (b1 : b ≤ 2147483647) (h0 : 0 ≤ h) (h1 : h ≤ 255) (n0 : (h % 5 == 0) = false) (n1 : (h % 5 == 1) = false) (k : (h % 5 == 2) = true) : Calls Try.prog 15 #[.int .i32 a, .int .i32 b, .int .u8 h] w fun e w' => e = .returned (.agg #[.int .i64 (endsF (a.tmod 40) (a.tmod 40 + b % 4294967296 % 70000)).1, .int .i64 (endsF (a.tmod 40) (a.tmod 40 + b % 4294967296 % 70000)).2]) ∧ Below w.heap.size w w' := by
  have t0 := tmod_bd (a := a) (k := 40) (by omega)
  have hw : wrap64 (a.tmod 40 + b % 4294967296 % 70000) = a.tmod 40 + b % 4294967296 % 70000 := w64_in (by omega) (by omega)
  clear t0
  go_enter Try.func15, Try.ntmps15
  go_wp2
  exact bodyPost_ret (v := .agg #[.int .i64 (mnI (a.tmod 40) (a.tmod 40 + b % 4294967296 % 70000)), .int .i64 (mxI (a.tmod 40) (a.tmod 40 + b % 4294967296 % 70000))]) (by simp [results, Try.results15, go_sem]) rfl ⟨rfl, below_alloc _ _⟩
theorem of_3 (a b h : Int) (w : World) (a0 : -2147483648 ≤ a) (a1 : a ≤ 2147483647) (b0 : -2147483648 ≤ b) (b1 : b ≤ 2147483647) (h0 : 0 ≤ h) (h1 : h ≤ 255) (n0 : (h % 5 == 0) = false) (n1 : (h % 5 == 1) = false) (n2 : (h % 5 == 2) = false) (k : (h % 5 == 3) = true) (k2 : ¬ 240 < h) : Calls Try.prog 15 #[.int .i32 a, .int .i32 b, .int .u8 h] w fun e w' => e = .returned (.agg #[.int .i64 (endsF (a) (b)).1, .int .i64 (endsF (a) (b)).2]) ∧ Below w.heap.size w w' := by
  go_enter Try.func15, Try.ntmps15
  go_wp2
  exact bodyPost_ret (v := .agg #[.int .i64 (mnI (a) (b)), .int .i64 (mxI (a) (b))]) (by simp [results, Try.results15, go_sem]) rfl ⟨rfl, below_alloc _ _⟩
theorem of_4 (a b h : Int) (w : World) (a0 : -2147483648 ≤ a) (a1 : a ≤ 2147483647) (b0 : -2147483648 ≤ b) (b1 : b ≤ 2147483647) (h0 : 0 ≤ h) (h1 : h ≤ 255) (n0 : (h % 5 == 0) = false) (n1 : (h % 5 == 1) = false) (n2 : (h % 5 == 2) = false) (n3 : (h % 5 == 3) = false) : Calls Try.prog 15 #[.int .i32 a, .int .i32 b, .int .u8 h] w fun e w' => e = .returned (.agg #[.int .i64 (endsF (a) (b)).1, .int .i64 (endsF (a) (b)).2]) ∧ Below w.heap.size w w' := by
  go_enter Try.func15, Try.ntmps15
  go_wp2
  exact bodyPost_ret (v := .agg #[.int .i64 (mnI (a) (b)), .int .i64 (mxI (a) (b))]) (by simp [results, Try.results15, go_sem]) rfl ⟨rfl, below_alloc _ _⟩
theorem of_n (a b h : Int) (w : World) (a0 : -2147483648 ≤ a) (a1 : a ≤ 2147483647) (b0 : -2147483648 ≤ b) (b1 : b ≤ 2147483647) (h0 : 0 ≤ h) (h1 : h ≤ 255) (n0 : (h % 5 == 0) = false) (n1 : (h % 5 == 1) = false) (n2 : (h % 5 == 2) = false) (k : (h % 5 == 3) = true) (k2 : 240 < h) : Calls Try.prog 15 #[.int .i32 a, .int .i32 b, .int .u8 h] w fun e w' => e = .returned (.agg #[.int .i64 1, .int .i64 0]) ∧ Below w.heap.size w w' := by
  go_enter Try.func15, Try.ntmps15
  go_wp2_with (go_at_call 12; refine (none_any _).mono ?_; rintro e w3 ⟨rfl, hb⟩; have hB := below_call (below_alloc w _) hb; have i0 : IB w3 w.heap.size 0 0 := (IB.new w 0 0).below hb; have c0 := i0.c0; have d0 := i0.c1; have f0 := i0.f0 0; have e0 := i0.f0 1; clear hb)
  refine bodyPost_ret (v := .agg #[.int .i64 (1), .int .i64 (0)]) ?_ rfl ⟨rfl, ?_⟩
  · have k0 := ((i0.set0 (1)).set1 (0)).c0
    have k1 := ((i0.set0 (1)).set1 (0)).c1
    simp [results, Try.results15, go_sem, k0, k1]
  · exact below_set (below_set hB (by omega) _) (by omega) _
theorem of_any (a b h : Int) (a0 : -2147483648 ≤ a) (a1 : a ≤ 2147483647) (b0 : -2147483648 ≤ b) (b1 : b ≤ 2147483647) (h0 : 0 ≤ h) (h1 : h ≤ 255) (w : World) : Calls Try.prog 15 #[.int .i32 a, .int .i32 b, .int .u8 h] w fun e w' => e = .returned (.agg #[.int .i64 (ofF a b h).1, .int .i64 (ofF a b h).2]) ∧ Below w.heap.size w w' := by
  unfold ofF
  by_cases k0 : h % 5 = 0
  · rw [if_pos k0]; exact of_0 a b h w a0 a1 b0 b1 h0 h1 (by simpa using k0)
  by_cases k1 : h % 5 = 1
  · rw [if_neg k0, if_pos k1]; exact of_1 a b h w a0 a1 b0 b1 h0 h1 (by simpa using k0) (by simpa using k1)
  by_cases k2 : h % 5 = 2
  · rw [if_neg k0, if_neg k1, if_pos k2]; exact of_2 a b h w a0 a1 b0 b1 h0 h1 (by simpa using k0) (by simpa using k1) (by simpa using k2)
  by_cases k3 : h % 5 = 3
  · by_cases k4 : 240 < h
    · rw [if_neg k0, if_neg k1, if_neg k2, if_pos ⟨k3, k4⟩]; exact of_n a b h w a0 a1 b0 b1 h0 h1 (by simpa using k0) (by simpa using k1) (by simpa using k2) (by simpa using k3) k4
    · rw [if_neg k0, if_neg k1, if_neg k2, if_neg (fun x => k4 x.2)]; exact of_3 a b h w a0 a1 b0 b1 h0 h1 (by simpa using k0) (by simpa using k1) (by simpa using k2) (by simpa using k3) k4
  · rw [if_neg k0, if_neg k1, if_neg k2, if_neg (fun x => k3 x.1)]; exact of_4 a b h w a0 a1 b0 b1 h0 h1 (by simpa using k0) (by simpa using k1) (by simpa using k2) (by simpa using k3)
/-- What 'of' gives is None, or an interval of words. -/
theorem of_fixed {a b : Int} (h : Int) (a0 : -2147483648 ≤ a) (a1 : a ≤ 2147483647) (b0 : -2147483648 ≤ b) (b1 : b ≤ 2147483647) : Fixed (ofF a b h).1 (ofF a b h).2 := by
  have t0 := tmod_bd (a := a) (k := 20) (by omega)
  have t1 := tmod_bd (a := a) (k := 40) (by omega)
  have g : ∀ x y : Int, -2147483648 ≤ x → x ≤ 2147483647 → -2147483648 ≤ y → y ≤ 2147483647 → Fixed (endsF x y).1 (endsF x y).2 := by
    intro x y h1 h2 h3 h4
    refine Or.inr ?_
    unfold endsF mnI mxI
    simp only
    split <;> omega
  unfold ofF
  split
  · exact g _ _ (by omega) (by omega) (by omega) (by omega)
  split
  · exact g _ _ a0 a1 a0 a1
  split
  · exact g _ _ (by omega) (by omega) (by omega) (by omega)
  split
  · exact Or.inl ⟨rfl, rfl⟩
  · exact g _ _ a0 a1 b0 b1
end Go.Proofs.Ytdooadomkifbbaa
