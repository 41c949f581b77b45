/-
  The walks of without, around, mask and quotient, and of the reference's both, but, hull, truth and bits. Conditions: words, where bounds are named.
-/
import Derived.Test.YtdooadomkifbbaaWalksC
import Derived.Test.YtdooadomkifbbaaWalksD
namespace Go.Proofs.Ytdooadomkifbbaa
open Go.RowKit
open Go.Proofs.YtdooadomkifbbaaW.PrintLast
attribute [local go_sem high] eqA23
attribute [local go_sem] max2_i min2_i max_2 min_2 max_4 min_4
set_option maxHeartbeats 2000000
set_option maxRecDepth 100000
set_option linter.unusedSimpArgs false
set_option linter.unusedVariables false
theorem without_1 (p q : Int) (w : World) (b0 : -2147483648 ≤ p) (b1 : p ≤ 2147483647) (b2 : -2147483648 ≤ q) (b3 : q ≤ 2147483647) : Calls Try.prog 43 #[.agg #[.int .i64 p, .int .i64 q], .int .i64 p] w fun e w' => e = .returned (.agg #[.int .i64 (made (p + 1) q).1, .int .i64 (made (p + 1) q).2]) ∧ Below w.heap.size w w' := by
  go_enter Try.func43, Try.ntmps43
  go_wp2_with (go_at_call 42; refine (made_any _ _ _).mono ?_; rintro e w3 ⟨rfl, hb⟩; have hB := below_call (((Below.refl w.heap.size w).alloc (Nat.le_refl _) _).alloc (by simp) _) hb; have i1 : IB w3 (w.heap.size + 1) 0 0 := (IB.at (by simp) 0 0).below hb; have c1 := i1.c0; have d1 := i1.c1; have f1 := i1.f0 0; have e1 := i1.f0 1; clear hb)
  refine bodyPost_ret (v := .agg #[.int .i64 ((made (p + 1) q).1), .int .i64 ((made (p + 1) q).2)]) ?_ rfl ⟨rfl, ?_⟩
  · have k0 := ((i1.set0 ((made (p + 1) q).1)).set1 ((made (p + 1) q).2)).c0
    have k1 := ((i1.set0 ((made (p + 1) q).1)).set1 ((made (p + 1) q).2)).c1
    simp [results, Try.results43, go_sem, k0, k1]
  · exact below_set (below_set hB (by omega) _) (by omega) _
theorem without_2 (p q : Int) (w : World) (b0 : -2147483648 ≤ p) (b1 : p ≤ 2147483647) (b2 : -2147483648 ≤ q) (b3 : q ≤ 2147483647) (h : (q == p) = false) : Calls Try.prog 43 #[.agg #[.int .i64 p, .int .i64 q], .int .i64 q] w fun e w' => e = .returned (.agg #[.int .i64 (made p (q - 1)).1, .int .i64 (made p (q - 1)).2]) ∧ Below w.heap.size w w' := by
  go_enter Try.func43, Try.ntmps43
  go_wp2_with (go_at_call 42; refine (made_any _ _ _).mono ?_; rintro e w3 ⟨rfl, hb⟩; have hB := below_call (((Below.refl w.heap.size w).alloc (Nat.le_refl _) _).alloc (by simp) _) hb; have i1 : IB w3 (w.heap.size + 1) 0 0 := (IB.at (by simp) 0 0).below hb; have c1 := i1.c0; have d1 := i1.c1; have f1 := i1.f0 0; have e1 := i1.f0 1; clear hb)
  refine bodyPost_ret (v := .agg #[.int .i64 ((made p (q - 1)).1), .int .i64 ((made p (q - 1)).2)]) ?_ rfl ⟨rfl, ?_⟩
  · have k0 := ((i1.set0 ((made p (q - 1)).1)).set1 ((made p (q - 1)).2)).c0
    have k1 := ((i1.set0 ((made p (q - 1)).1)).set1 ((made p (q - 1)).2)).c1
    simp [results, Try.results43, go_sem, k0, k1]
  · exact below_set (below_set hB (by omega) _) (by omega) _
theorem without_3 (p q n : Int) (w : World) (h : (n == p) = false) (h2 : (n == q) = false) : Calls Try.prog 43 #[.agg #[.int .i64 p, .int .i64 q], .int .i64 n] w fun e w' => e = .returned (.agg #[.int .i64 p, .int .i64 q]) ∧ Below w.heap.size w w' := by
  go_enter Try.func43, Try.ntmps43
  go_wp2
  exact bodyPost_ret (v := .agg #[.int .i64 p, .int .i64 q]) (by simp [results, Try.results43, go_sem]) rfl ⟨rfl, ((Below.refl w.heap.size w).alloc (Nat.le_refl _) _).alloc (by simp) _⟩
theorem without_any (p q n : Int) (b0 : -2147483648 ≤ p) (b1 : p ≤ 2147483647) (b2 : -2147483648 ≤ q) (b3 : q ≤ 2147483647) (w : World) : Calls Try.prog 43 #[.agg #[.int .i64 p, .int .i64 q], .int .i64 n] w fun e w' => e = .returned (.agg #[.int .i64 (withoutF p q n).1, .int .i64 (withoutF p q n).2]) ∧ Below w.heap.size w w' := by
  unfold withoutF
  by_cases h : n = p
  · rw [if_pos h]; subst h; exact without_1 n q w b0 b1 b2 b3
  · rw [if_neg h]
    by_cases h2 : n = q
    · rw [if_pos h2]; subst h2; exact without_2 p n w b0 b1 b2 b3 (by simpa using h)
    · rw [if_neg h2]; exact without_3 p q n w (by simpa using h) (by simpa using h2)
theorem mask_any (n : Int) (h0 : 0 ≤ n) (h1 : n ≤ 2147483647) (w : World) : Calls Try.prog 53 #[.int .i64 n] w fun e w' => e = .returned (.int .i64 (maskG 0 n)) ∧ Below w.heap.size w w' := by
  go_enter Try.func53, Try.ntmps53
  go_wp2
  go_loop [3] (fun m => ∃ k : Int, 0 ≤ k ∧ k ≤ 4294967295 ∧ m = .int .i64 k ∧ Hid (maskG k n = maskG 0 n)) (fun m => (n - intOf m).toNat)
  case atStart => exact ⟨0, by omega, by omega, rfl, Lib.hid rfl⟩
  case round =>
    obtain ⟨k, k0, k1, rfl, hk⟩ := hrel
    by_cases hlt : k < n
    · go_wp2
      go_round
      case rel => exact ⟨2 * k + 1, by omega, by omega, rfl, Lib.hid ((maskG_step k0 hlt).symm.trans hk.out)⟩
      case measure => simp [intOf]; omega
    · go_wp2
      go_ret
      exact ⟨ret_int (by rw [← hk.out, maskG_end (by omega)]), Below.refl _ _⟩
theorem bits_any (n : Int) (h0 : 0 ≤ n) (h1 : n ≤ 2147483647) (w : World) : Calls Try.prog 51 #[.int .i64 n] w fun e w' => e = .returned (.int .i64 (maskG 0 n)) ∧ Below w.heap.size w w' := by
  go_enter Try.func51, Try.ntmps51
  go_wp2
  go_loop [3] (fun m => ∃ k : Int, 0 ≤ k ∧ k ≤ 4294967295 ∧ m = .int .i64 k ∧ Hid (maskG k n = maskG 0 n)) (fun m => (n - intOf m).toNat)
  case atStart => exact ⟨0, by omega, by omega, rfl, Lib.hid rfl⟩
  case round =>
    obtain ⟨k, k0, k1, rfl, hk⟩ := hrel
    by_cases hlt : k < n
    · go_wp2
      go_round
      case rel => exact ⟨2 * k + 1, by omega, by omega, rfl, Lib.hid ((maskG_step k0 hlt).symm.trans hk.out)⟩
      case measure => simp [intOf]; omega
    · go_wp2
      go_ret
      exact ⟨ret_int (by rw [← hk.out, maskG_end (by omega)]), Below.refl _ _⟩
theorem around1_1 (a x : Int) (g : Nat) (w : World) (h : SB w g [x]) (h1 : isB (mnI a x) = false) : Calls Try.prog 35 #[.int .i64 a, .slice (some ⟨g, 0, none⟩) 1 1] w fun e w' => e = .returned (.agg #[.int .i64 ((-2147483648)), .int .i64 (2147483647)]) ∧ Below w.heap.size w w' := by
  have hs := SB.alloc h (.cells #[.int .i64 0, .int .i64 0] 23)
  go_enter Try.func35, Try.ntmps35
  go_wp2_with (first | (go_at_call 44; refine (lowest1 _ _ _ _ hs).mono ?_; rintro e w3 ⟨rfl, hb⟩; have hB := below_call (below_alloc w _) hb; have i0 : IB w3 w.heap.size 0 0 := (IB.new w 0 0).below hb; replace hs := SB.below hs hb; clear hb) | (go_at_call 45; refine (highest1 _ _ _ _ hs).mono ?_; rintro e w3 ⟨rfl, hb⟩; replace hB := below_call hB hb; replace i0 := i0.below hb; replace hs := SB.below hs hb; clear hb) | (go_at_call 38; refine (is_any _ _).mono ?_; rintro e w3 ⟨rfl, hb⟩; replace hB := below_call hB hb; replace i0 := i0.below hb; have c0 := i0.c0; have d0 := i0.c1; have f0 := i0.f0 0; have e0 := i0.f0 1; clear hb) | (go_at_call 10; refine (all_any _).mono ?_; rintro e w3 ⟨rfl, hb⟩; replace hB := below_call hB hb; replace i0 := i0.below hb; have c0 := i0.c0; have d0 := i0.c1; have f0 := i0.f0 0; have e0 := i0.f0 1; clear hb))
  refine bodyPost_ret (v := .agg #[.int .i64 ((-2147483648)), .int .i64 (2147483647)]) ?_ rfl ⟨rfl, ?_⟩
  · have k0 := ((i0.set0 ((-2147483648))).set1 (2147483647)).c0
    have k1 := ((i0.set0 ((-2147483648))).set1 (2147483647)).c1
    simp [results, Try.results35, go_sem, k0, k1]
  · exact below_set (below_set hB (by omega) _) (by omega) _
theorem around1_2 (a x : Int) (g : Nat) (w : World) (h : SB w g [x]) (h1 : isB (mnI a x) = true) (h2 : isB (mxI a x) = false) : Calls Try.prog 35 #[.int .i64 a, .slice (some ⟨g, 0, none⟩) 1 1] w fun e w' => e = .returned (.agg #[.int .i64 ((-2147483648)), .int .i64 (2147483647)]) ∧ Below w.heap.size w w' := by
  have hs := SB.alloc h (.cells #[.int .i64 0, .int .i64 0] 23)
  go_enter Try.func35, Try.ntmps35
  go_wp2_with (first | (go_at_call 44; refine (lowest1 _ _ _ _ hs).mono ?_; rintro e w3 ⟨rfl, hb⟩; have hB := below_call (below_alloc w _) hb; have i0 : IB w3 w.heap.size 0 0 := (IB.new w 0 0).below hb; replace hs := SB.below hs hb; clear hb) | (go_at_call 45; refine (highest1 _ _ _ _ hs).mono ?_; rintro e w3 ⟨rfl, hb⟩; replace hB := below_call hB hb; replace i0 := i0.below hb; replace hs := SB.below hs hb; clear hb) | (go_at_call 38; refine (is_any _ _).mono ?_; rintro e w3 ⟨rfl, hb⟩; replace hB := below_call hB hb; replace i0 := i0.below hb; have c0 := i0.c0; have d0 := i0.c1; have f0 := i0.f0 0; have e0 := i0.f0 1; clear hb) | (go_at_call 10; refine (all_any _).mono ?_; rintro e w3 ⟨rfl, hb⟩; replace hB := below_call hB hb; replace i0 := i0.below hb; have c0 := i0.c0; have d0 := i0.c1; have f0 := i0.f0 0; have e0 := i0.f0 1; clear hb))
  refine bodyPost_ret (v := .agg #[.int .i64 ((-2147483648)), .int .i64 (2147483647)]) ?_ rfl ⟨rfl, ?_⟩
  · have k0 := ((i0.set0 ((-2147483648))).set1 (2147483647)).c0
    have k1 := ((i0.set0 ((-2147483648))).set1 (2147483647)).c1
    simp [results, Try.results35, go_sem, k0, k1]
  · exact below_set (below_set hB (by omega) _) (by omega) _
theorem around1_3 (a x : Int) (g : Nat) (w : World) (h : SB w g [x]) (h1 : isB (mnI a x) = true) (h2 : isB (mxI a x) = true) : Calls Try.prog 35 #[.int .i64 a, .slice (some ⟨g, 0, none⟩) 1 1] w fun e w' => e = .returned (.agg #[.int .i64 (mnI a x), .int .i64 (mxI a x)]) ∧ Below w.heap.size w w' := by
  have hs := SB.alloc h (.cells #[.int .i64 0, .int .i64 0] 23)
  go_enter Try.func35, Try.ntmps35
  go_wp2_with (first | (go_at_call 44; refine (lowest1 _ _ _ _ hs).mono ?_; rintro e w3 ⟨rfl, hb⟩; have hB := below_call (below_alloc w _) hb; have i0 : IB w3 w.heap.size 0 0 := (IB.new w 0 0).below hb; replace hs := SB.below hs hb; clear hb) | (go_at_call 45; refine (highest1 _ _ _ _ hs).mono ?_; rintro e w3 ⟨rfl, hb⟩; replace hB := below_call hB hb; replace i0 := i0.below hb; replace hs := SB.below hs hb; clear hb) | (go_at_call 38; refine (is_any _ _).mono ?_; rintro e w3 ⟨rfl, hb⟩; replace hB := below_call hB hb; replace i0 := i0.below hb; have c0 := i0.c0; have d0 := i0.c1; have f0 := i0.f0 0; have e0 := i0.f0 1; clear hb) | (go_at_call 10; refine (all_any _).mono ?_; rintro e w3 ⟨rfl, hb⟩; replace hB := below_call hB hb; replace i0 := i0.below hb; have c0 := i0.c0; have d0 := i0.c1; have f0 := i0.f0 0; have e0 := i0.f0 1; clear hb))
  refine bodyPost_ret (v := .agg #[.int .i64 (mnI a x), .int .i64 (mxI a x)]) ?_ rfl ⟨rfl, ?_⟩
  · have k0 := ((i0.set0 (mnI a x)).set1 (mxI a x)).c0
    have k1 := ((i0.set0 (mnI a x)).set1 (mxI a x)).c1
    simp [results, Try.results35, go_sem, k0, k1]
  · exact below_set (below_set hB (by omega) _) (by omega) _
theorem around1 (a x : Int) (g : Nat) (w : World) (h : SB w g [x]) : Calls Try.prog 35 #[.int .i64 a, .slice (some ⟨g, 0, none⟩) 1 1] w fun e w' => e = .returned (.agg #[.int .i64 (aroundF (mnI a x) (mxI a x)).1, .int .i64 (aroundF (mnI a x) (mxI a x)).2]) ∧ Below w.heap.size w w' := by
  unfold aroundF
  cases h1 : isB (mnI a x)
  · exact around1_1 a x g w h h1
  · cases h2 : isB (mxI a x)
    · exact around1_2 a x g w h h1 h2
    · exact around1_3 a x g w h h1 h2
theorem around3_1 (a x y z : Int) (g : Nat) (w : World) (h : SB w g [x, y, z]) (h1 : isB (mnI (mnI (mnI a x) y) z) = false) : Calls Try.prog 35 #[.int .i64 a, .slice (some ⟨g, 0, none⟩) 3 3] w fun e w' => e = .returned (.agg #[.int .i64 ((-2147483648)), .int .i64 (2147483647)]) ∧ Below w.heap.size w w' := by
  have hs := SB.alloc h (.cells #[.int .i64 0, .int .i64 0] 23)
  go_enter Try.func35, Try.ntmps35
  go_wp2_with (first | (go_at_call 44; refine (lowest3 _ _ _ _ _ _ hs).mono ?_; rintro e w3 ⟨rfl, hb⟩; have hB := below_call (below_alloc w _) hb; have i0 : IB w3 w.heap.size 0 0 := (IB.new w 0 0).below hb; replace hs := SB.below hs hb; clear hb) | (go_at_call 45; refine (highest3 _ _ _ _ _ _ hs).mono ?_; rintro e w3 ⟨rfl, hb⟩; replace hB := below_call hB hb; replace i0 := i0.below hb; replace hs := SB.below hs hb; clear hb) | (go_at_call 38; refine (is_any _ _).mono ?_; rintro e w3 ⟨rfl, hb⟩; replace hB := below_call hB hb; replace i0 := i0.below hb; have c0 := i0.c0; have d0 := i0.c1; have f0 := i0.f0 0; have e0 := i0.f0 1; clear hb) | (go_at_call 10; refine (all_any _).mono ?_; rintro e w3 ⟨rfl, hb⟩; replace hB := below_call hB hb; replace i0 := i0.below hb; have c0 := i0.c0; have d0 := i0.c1; have f0 := i0.f0 0; have e0 := i0.f0 1; clear hb))
  refine bodyPost_ret (v := .agg #[.int .i64 ((-2147483648)), .int .i64 (2147483647)]) ?_ rfl ⟨rfl, ?_⟩
  · have k0 := ((i0.set0 ((-2147483648))).set1 (2147483647)).c0
    have k1 := ((i0.set0 ((-2147483648))).set1 (2147483647)).c1
    simp [results, Try.results35, go_sem, k0, k1]
  · exact below_set (below_set hB (by omega) _) (by omega) _
theorem around3_2 (a x y z : Int) (g : Nat) (w : World) (h : SB w g [x, y, z]) (h1 : isB (mnI (mnI (mnI a x) y) z) = true) (h2 : isB (mxI (mxI (mxI a x) y) z) = false) : Calls Try.prog 35 #[.int .i64 a, .slice (some ⟨g, 0, none⟩) 3 3] w fun e w' => e = .returned (.agg #[.int .i64 ((-2147483648)), .int .i64 (2147483647)]) ∧ Below w.heap.size w w' := by
  have hs := SB.alloc h (.cells #[.int .i64 0, .int .i64 0] 23)
  go_enter Try.func35, Try.ntmps35
  go_wp2_with (first | (go_at_call 44; refine (lowest3 _ _ _ _ _ _ hs).mono ?_; rintro e w3 ⟨rfl, hb⟩; have hB := below_call (below_alloc w _) hb; have i0 : IB w3 w.heap.size 0 0 := (IB.new w 0 0).below hb; replace hs := SB.below hs hb; clear hb) | (go_at_call 45; refine (highest3 _ _ _ _ _ _ hs).mono ?_; rintro e w3 ⟨rfl, hb⟩; replace hB := below_call hB hb; replace i0 := i0.below hb; replace hs := SB.below hs hb; clear hb) | (go_at_call 38; refine (is_any _ _).mono ?_; rintro e w3 ⟨rfl, hb⟩; replace hB := below_call hB hb; replace i0 := i0.below hb; have c0 := i0.c0; have d0 := i0.c1; have f0 := i0.f0 0; have e0 := i0.f0 1; clear hb) | (go_at_call 10; refine (all_any _).mono ?_; rintro e w3 ⟨rfl, hb⟩; replace hB := below_call hB hb; replace i0 := i0.below hb; have c0 := i0.c0; have d0 := i0.c1; have f0 := i0.f0 0; have e0 := i0.f0 1; clear hb))
  refine bodyPost_ret (v := .agg #[.int .i64 ((-2147483648)), .int .i64 (2147483647)]) ?_ rfl ⟨rfl, ?_⟩
  · have k0 := ((i0.set0 ((-2147483648))).set1 (2147483647)).c0
    have k1 := ((i0.set0 ((-2147483648))).set1 (2147483647)).c1
    simp [results, Try.results35, go_sem, k0, k1]
  · exact below_set (below_set hB (by omega) _) (by omega) _
theorem around3_3 (a x y z : Int) (g : Nat) (w : World) (h : SB w g [x, y, z]) (h1 : isB (mnI (mnI (mnI a x) y) z) = true) (h2 : isB (mxI (mxI (mxI a x) y) z) = true) : Calls Try.prog 35 #[.int .i64 a, .slice (some ⟨g, 0, none⟩) 3 3] w fun e w' => e = .returned (.agg #[.int .i64 (mnI (mnI (mnI a x) y) z), .int .i64 (mxI (mxI (mxI a x) y) z)]) ∧ Below w.heap.size w w' := by
  have hs := SB.alloc h (.cells #[.int .i64 0, .int .i64 0] 23)
  go_enter Try.func35, Try.ntmps35
  go_wp2_with (first | (go_at_call 44; refine (lowest3 _ _ _ _ _ _ hs).mono ?_; rintro e w3 ⟨rfl, hb⟩; have hB := below_call (below_alloc w _) hb; have i0 : IB w3 w.heap.size 0 0 := (IB.new w 0 0).below hb; replace hs := SB.below hs hb; clear hb) | (go_at_call 45; refine (highest3 _ _ _ _ _ _ hs).mono ?_; rintro e w3 ⟨rfl, hb⟩; replace hB := below_call hB hb; replace i0 := i0.below hb; replace hs := SB.below hs hb; clear hb) | (go_at_call 38; refine (is_any _ _).mono ?_; rintro e w3 ⟨rfl, hb⟩; replace hB := below_call hB hb; replace i0 := i0.below hb; have c0 := i0.c0; have d0 := i0.c1; have f0 := i0.f0 0; have e0 := i0.f0 1; clear hb) | (go_at_call 10; refine (all_any _).mono ?_; rintro e w3 ⟨rfl, hb⟩; replace hB := below_call hB hb; replace i0 := i0.below hb; have c0 := i0.c0; have d0 := i0.c1; have f0 := i0.f0 0; have e0 := i0.f0 1; clear hb))
  refine bodyPost_ret (v := .agg #[.int .i64 (mnI (mnI (mnI a x) y) z), .int .i64 (mxI (mxI (mxI a x) y) z)]) ?_ rfl ⟨rfl, ?_⟩
  · have k0 := ((i0.set0 (mnI (mnI (mnI a x) y) z)).set1 (mxI (mxI (mxI a x) y) z)).c0
    have k1 := ((i0.set0 (mnI (mnI (mnI a x) y) z)).set1 (mxI (mxI (mxI a x) y) z)).c1
    simp [results, Try.results35, go_sem, k0, k1]
  · exact below_set (below_set hB (by omega) _) (by omega) _
theorem around3 (a x y z : Int) (g : Nat) (w : World) (h : SB w g [x, y, z]) : Calls Try.prog 35 #[.int .i64 a, .slice (some ⟨g, 0, none⟩) 3 3] w fun e w' => e = .returned (.agg #[.int .i64 (aroundF (mnI (mnI (mnI a x) y) z) (mxI (mxI (mxI a x) y) z)).1, .int .i64 (aroundF (mnI (mnI (mnI a x) y) z) (mxI (mxI (mxI a x) y) z)).2]) ∧ Below w.heap.size w w' := by
  unfold aroundF
  cases h1 : isB (mnI (mnI (mnI a x) y) z)
  · exact around3_1 a x y z g w h h1
  · cases h2 : isB (mxI (mxI (mxI a x) y) z)
    · exact around3_2 a x y z g w h h1 h2
    · exact around3_3 a x y z g w h h1 h2
end Go.Proofs.Ytdooadomkifbbaa
