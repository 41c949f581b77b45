/-
  Do, for all operators and all intervals.
-/
import Derived.Test.YtdooadomkifbbaaPlain4
import Derived.Test.YtdooadomkifbbaaWalksI1
import Derived.Test.YtdooadomkifbbaaWalksI2
import Derived.Test.YtdooadomkifbbaaWalksI3
namespace Go.Proofs.Ytdooadomkifbbaa
open Go.RowKit
open Go.Proofs.YtdooadomkifbbaaW.PrintLast
attribute [local go_sem high] eqA23
attribute [local go_sem] max2_i min2_i max_2 min_2 max_4 min_4
set_option maxHeartbeats 2000000
set_option maxRecDepth 100000
set_option linter.unusedSimpArgs false
set_option linter.unusedVariables false
theorem do_as {a b c d p q r s : Int} (op : Int) (hpq : fixP a b = (p, q)) (hrs : fixP c d = (r, s)) (w : World) :
    Calls Try.prog 16 #[.int .i64 op, .agg #[.int .i64 a, .int .i64 b], .agg #[.int .i64 c, .int .i64 d]] w fun e w' => e = .returned (.agg #[.int .i64 (doF op p q r s).1, .int .i64 (doF op p q r s).2]) ∧ Below w.heap.size w w' := by
  have fp := fixed_as hpq
  have fr := fixed_as hrs
  obtain ⟨b0, b1, b2, b3⟩ := fp.bd
  obtain ⟨b4, b5, b6, b7⟩ := fr.bd
  by_cases g1 : q < p
  · rw [doF_e1 op r s g1]; exact do_n1 op a b c d p q r s w hpq hrs (decide_eq_true g1)
  by_cases g2 : s < r
  · rw [doF_e2 op p q g2]; exact do_n2 op a b c d p q r s w hpq hrs (decide_eq_false g1) (decide_eq_true g2)
  rw [doF_ne op g1 g2]
  have lp : p ≤ q := by omega
  have lr : r ≤ s := by omega
  by_cases ho : ¬ (1 ≤ op ∧ op ≤ 14)
  · rw [do1F_other p q r s ho]
    exact do_other op a b c d p q r s w hpq hrs (decide_eq_false g1) (decide_eq_false g2) b0 b1 b2 b3 b4 b5 b6 b7 (by simp; omega) (by simp; omega) (by simp; omega) (by simp; omega) (by simp; omega) (by simp; omega) (by simp; omega) (by simp; omega) (by simp; omega) (by simp; omega) (by simp; omega) (by simp; omega) (by simp; omega) (by simp; omega)
  have hop : op = 1 ∨ op = 2 ∨ op = 3 ∨ op = 4 ∨ op = 5 ∨ op = 6 ∨ op = 7 ∨ op = 8 ∨ op = 9 ∨ op = 10 ∨ op = 11 ∨ op = 12 ∨ op = 13 ∨ op = 14 := by omega
  clear ho
  rcases hop with rfl | rfl | rfl | rfl | rfl | rfl | rfl | rfl | rfl | rfl | rfl | rfl | rfl | rfl
  · exact do_1 a b c d p q r s w hpq hrs (decide_eq_false g1) (decide_eq_false g2) b0 b1 b2 b3 b4 b5 b6 b7
  · exact do_2 a b c d p q r s w hpq hrs (decide_eq_false g1) (decide_eq_false g2) b0 b1 b2 b3 b4 b5 b6 b7
  · exact do_3 a b c d p q r s w hpq hrs (decide_eq_false g1) (decide_eq_false g2) b0 b1 b2 b3 b4 b5 b6 b7 (w64_mul b0 (by omega) b4 (by omega)) (w64_mul b0 (by omega) b6 (by omega)) (w64_mul b2 (by omega) b4 (by omega)) (w64_mul b2 (by omega) b6 (by omega))
  · by_cases h3 : 1 ≤ r
    · have e : do1F 4 p q r s = quoF p q r s := if_pos h3
      rw [e]; exact do_4 a b c d p q r s w hpq hrs (decide_eq_false g1) (decide_eq_false g2) b0 b1 b2 b3 b4 b5 b6 b7 h3 (by omega)
    · have e : do1F 4 p q r s = allP := if_neg h3
      rw [e]; exact do_4n a b c d p q r s w hpq hrs (decide_eq_false g1) (decide_eq_false g2) b0 b1 b2 b3 b4 b5 b6 b7 h3
  · by_cases h3 : 1 ≤ r
    · have e : do1F 5 p q r s = remF p q s := if_pos h3
      rw [e]; exact do_5 a b c d p q r s w hpq hrs (decide_eq_false g1) (decide_eq_false g2) b0 b1 b2 b3 b4 b5 b6 b7 h3 (by omega)
    · have e : do1F 5 p q r s = allP := if_neg h3
      rw [e]; exact do_5n a b c d p q r s w hpq hrs (decide_eq_false g1) (decide_eq_false g2) b0 b1 b2 b3 b4 b5 b6 b7 h3
  · exact do_6 a b c d p q r s w hpq hrs (decide_eq_false g1) (decide_eq_false g2) b0 b1 b2 b3 b4 b5 b6 b7 lp lr
  · exact do_7 a b c d p q r s w hpq hrs (decide_eq_false g1) (decide_eq_false g2) b0 b1 b2 b3 b4 b5 b6 b7 lp lr
  · exact do_8 a b c d p q r s w hpq hrs (decide_eq_false g1) (decide_eq_false g2) b0 b1 b2 b3 b4 b5 b6 b7 lp lr
  · have x0 := w64_shl b0 b1 (r := r); have x1 := w64_shl b2 b3 (r := r)
    by_cases h3 : r = s
    · have k3 : (r == s) = true := by simpa using h3
      by_cases h4 : 0 ≤ r
      · by_cases h5 : r ≤ 31
        · have y0 := x0 h5; have y1 := x1 h5
          by_cases h6 : 0 ≤ p
          · have pb := pow_bd (k := r.toNat) (by omega)
            have pm : p * 2 ^ r.toNat ≤ q * 2 ^ r.toNat := Int.mul_le_mul_of_nonneg_right lp (by omega)
            have pn : 0 ≤ p * 2 ^ r.toNat := Int.mul_nonneg h6 (by omega)
            by_cases h7 : q * 2 ^ r.toNat ≤ 2147483647
            · have e : do1F 9 p q r s = (p * 2 ^ r.toNat, q * 2 ^ r.toNat) := (do1F_9 p q r s).trans <| if_pos ⟨h3, h4, h5, h6, h7⟩
              have t := do_9 a b c d p q r s w hpq hrs (decide_eq_false g1) (decide_eq_false g2) b0 b1 b2 b3 b4 b5 b6 b7 k3 h4 h5 h6 (by rw [y1]; exact isB_true (by omega) h7)
              rw [y0, y1] at t
              rw [e]; exact t
            · have e : do1F 9 p q r s = allP := (do1F_9 p q r s).trans <| if_neg (fun h => h7 h.2.2.2.2)
              rw [e]; exact do_9e a b c d p q r s w hpq hrs (decide_eq_false g1) (decide_eq_false g2) b0 b1 b2 b3 b4 b5 b6 b7 k3 h4 h5 h6 (by rw [y1]; unfold isB; exact decide_eq_false (fun h => h7 h.2))
          · have e : do1F 9 p q r s = allP := (do1F_9 p q r s).trans <| if_neg (fun h => h6 h.2.2.2.1)
            rw [e]; exact do_9d a b c d p q r s w hpq hrs (decide_eq_false g1) (decide_eq_false g2) b0 b1 b2 b3 b4 b5 b6 b7 k3 h4 h5 h6
        · have e : do1F 9 p q r s = allP := (do1F_9 p q r s).trans <| if_neg (fun h => h5 h.2.2.1)
          rw [e]; exact do_9c a b c d p q r s w hpq hrs (decide_eq_false g1) (decide_eq_false g2) b0 b1 b2 b3 b4 b5 b6 b7 k3 h4 h5
      · have e : do1F 9 p q r s = allP := (do1F_9 p q r s).trans <| if_neg (fun h => h4 h.2.1)
        rw [e]; exact do_9b a b c d p q r s w hpq hrs (decide_eq_false g1) (decide_eq_false g2) b0 b1 b2 b3 b4 b5 b6 b7 k3 h4
    · have e : do1F 9 p q r s = allP := (do1F_9 p q r s).trans <| if_neg (fun h => h3 h.1)
      rw [e]; exact do_9a a b c d p q r s w hpq hrs (decide_eq_false g1) (decide_eq_false g2) b0 b1 b2 b3 b4 b5 b6 b7 (by simpa using h3)
  · by_cases h3 : 0 ≤ r
    · by_cases h4 : s ≤ 31
      · have e : do1F 10 p q r s = aroundF (mn4 (p / 2 ^ r.toNat) (p / 2 ^ s.toNat) (q / 2 ^ r.toNat) (q / 2 ^ s.toNat)) (mx4 (p / 2 ^ r.toNat) (p / 2 ^ s.toNat) (q / 2 ^ r.toNat) (q / 2 ^ s.toNat)) := (do1F_10 p q r s).trans <| if_pos ⟨h3, h4⟩
        rw [e]; exact do_10 a b c d p q r s w hpq hrs (decide_eq_false g1) (decide_eq_false g2) b0 b1 b2 b3 b4 b5 b6 b7 h3 h4 (by omega) (by omega)
      · have e : do1F 10 p q r s = (mnI p 0, mxI q 0) := (do1F_10 p q r s).trans <| if_neg (fun h => h4 h.2)
        rw [e]; exact do_10c a b c d p q r s w hpq hrs (decide_eq_false g1) (decide_eq_false g2) b0 b1 b2 b3 b4 b5 b6 b7 h3 h4
    · have e : do1F 10 p q r s = (mnI p 0, mxI q 0) := (do1F_10 p q r s).trans <| if_neg (fun h => h3 h.1)
      rw [e]; exact do_10b a b c d p q r s w hpq hrs (decide_eq_false g1) (decide_eq_false g2) b0 b1 b2 b3 b4 b5 b6 b7 h3
  · exact do_11 a b c d p q r s w hpq hrs (decide_eq_false g1) (decide_eq_false g2) b0 b1 b2 b3 b4 b5 b6 b7 lp lr fp fr
  · exact do_12 a b c d p q r s w hpq hrs (decide_eq_false g1) (decide_eq_false g2) b0 b1 b2 b3 b4 b5 b6 b7 lp lr fp fr
  · exact do_13 a b c d p q r s w hpq hrs (decide_eq_false g1) (decide_eq_false g2) b0 b1 b2 b3 b4 b5 b6 b7 lp lr fp fr
  · exact do_14 a b c d p q r s w hpq hrs (decide_eq_false g1) (decide_eq_false g2) b0 b1 b2 b3 b4 b5 b6 b7 lp lr fp fr
end Go.Proofs.Ytdooadomkifbbaa
