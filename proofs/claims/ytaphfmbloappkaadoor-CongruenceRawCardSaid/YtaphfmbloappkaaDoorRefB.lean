/-
  What the reference's order, Join, Meet and Do compute at valid residues: the plain residues' own functions. Conditions: the residues are valid.
-/
import Derived.Test.YtaphfmbloappkaaDoorRefA
import Derived.Test.YtaphfmbloappkaaDoorPAllx9
import Derived.Test.YtaphfmbloappkaaDoorPAllx14
import Derived.Test.YtaphfmbloappkaaDoorPAllx15
namespace Go.Proofs.YtaphfmbloappkaaDoorG
open Go.RowKit Go.Proofs.YtaphfmbloappkaaDoor Go.Proofs.YtaphfmbloappkaaDoorW.PrintWords Go.Proofs.YtaphfmbloappkaaDoorW.PrintMore PAll
set_option linter.unusedVariables false

theorem nv {b : Nat} (hb : Bt b) (r : Int) : ((low b r).1 == -1 && (low b r).2 == 0) = false := by
  rw [← Bool.not_eq_true, beq_pair]; exact low_non hb r
theorem rep_bd {b : Nat} (hb : Bt b) (r : Int) : -2147483648 ≤ (low b r).2 ∧ (low b r).2 ≤ 2147483647 := low_w hb r
theorem meet_val' {x y : El} (hx : okE x) (hy : okE y) (k : Nat) : congruence_Meet.f (k + 1) (val x).1 (val x).2 (val y).1 (val y).2 = some (val (meetE x y)) := by
  unfold congruence_Meet.f congruence_None.f meetE
  rw [fix_val hx, fix_val hy]
  simp only [Option.bind_some]
  rw [leq_val hx hy, leq_val hy hx]
  simp only [Option.bind_some]
  cases leE x y <;> cases leE y x <;> rfl
/-- The order of two residues that are not None. -/
theorem rleq_s {b c : Nat} (hb : Bt b) (hc : Bt c) (r s : Int) (k : Nat) : timeboundref08_Leq.f (k + 31) (low b r).1 (low b r).2 (low c s).1 (low c s).2 = some (leE (some (b, r)) (some (c, s))) := by
  unfold timeboundref08_Leq.f timeboundref08_None.f
  rw [show timeboundref08_Form.f (k + 31) (low b r).1 (low b r).2 = some (low b r) from rform_val (x := some (b, r)) hb k, show timeboundref08_Form.f (k + 31) (low c s).1 (low c s).2 = some (low c s) from rform_val (x := some (c, s)) hc k]
  simp only [Option.bind_some]
  rw [nv hb, nv hc, if_neg (by decide), if_neg (by decide)]
  have wr := rep_bd hb r; have ws := rep_bd hc s
  have dr := low_r hb r; have ds := low_r hc s
  rcases hc with hc | rfl
  · have p := pow_30 hc
    have e : (low c s).1 = 2 ^ c := by rw [low_b hc]
    rw [if_neg (show ¬ (low c s).1 = 0 by omega), e, w64_small (by omega) (by omega), tmod_iff]
    have key : c ≤ b → decide ((2 : Int) ^ c ∣ (low b r).2 - (low c s).2) = leE (some (b, r)) (some (c, s)) := by
      intro le
      simp only [leE]
      rw [Bool.eq_iff_iff, decide_eq_true_eq, decide_eq_true_eq]
      have d1 := dvd_mono le dr
      exact ⟨fun z => ⟨le, dvd_tri (dvd_sub_comm.1 d1) (dvd_tri z ds)⟩, fun z => dvd_tri d1 (dvd_tri z.2 (dvd_sub_comm.1 ds))⟩
    rcases hb with hb | rfl
    · have e' : (low b r).1 = 2 ^ b := by rw [low_b hb]
      have p' := pow_30 hb
      rw [if_neg (show ¬ (low b r).1 = 0 by omega), e']
      by_cases le : c ≤ b
      · rw [if_pos (show (2 : Int) ^ b ≥ 2 ^ c from pow_le le), key le]
      · rw [if_neg (fun z => le (pow_le_iff.1 z))]
        congr 1
        simp only [leE]
        exact (decide_eq_false (fun z => le z.1)).symm
    · rw [if_pos (show (low 32 r).1 = 0 from rfl), key (by omega)]
  · rw [if_pos (show (low 32 s).1 = 0 from rfl)]
    congr 1
    simp only [leE]
    rw [Bool.eq_iff_iff, beq_pair, decide_eq_true_eq]
    show low b r = low 32 s ↔ _
    rcases hb with hb | rfl
    · exact ⟨fun z => absurd z (low_ne (Or.inl hb) (Or.inr rfl) (by omega) r s), fun z => by omega⟩
    · rw [low_eq (Or.inr rfl)]
      exact ⟨fun z => ⟨Nat.le_refl _, z⟩, fun z => z.2⟩
theorem rleq_val {x y : El} (hx : okE x) (hy : okE y) (k : Nat) : timeboundref08_Leq.f (k + 31) (val x).1 (val x).2 (val y).1 (val y).2 = some (leE x y) := by
  rcases x with _ | ⟨b, r⟩
  · unfold timeboundref08_Leq.f timeboundref08_None.f
    rw [rform_val hx, rform_val hy]
    rfl
  rcases y with _ | ⟨c, s⟩
  · unfold timeboundref08_Leq.f timeboundref08_None.f
    rw [rform_val hx, rform_val hy]
    simp only [Option.bind_some]
    rw [show ((val (some (b, r))).1 == -1 && (val (some (b, r))).2 == 0) = false from nv hx r]
    rfl
  exact rleq_s hx hy r s k
theorem rmeet_val {x y : El} (hx : okE x) (hy : okE y) (k : Nat) : timeboundref08_Meet.f (k + 31) (val x).1 (val x).2 (val y).1 (val y).2 = some (val (meetE x y)) := by
  unfold timeboundref08_Meet.f timeboundref08_None.f meetE
  rw [rform_val hx, rform_val hy]
  simp only [Option.bind_some]
  rw [rleq_val hx hy, rleq_val hy hx]
  simp only [Option.bind_some]
  cases leE x y <;> cases leE y x <;> rfl
/-- The residue of a word modulo a power. -/
theorem rlow_val {n : Int} (n0 : -2147483648 ≤ n) (n1 : n ≤ 2147483647) (m : Nat) : timeboundref08_low.f n (m : Int) = some (low (min m 30) n) := by
  unfold timeboundref08_low.f
  have e : mn (m : Int) 30 = ((min m 30 : Nat) : Int) := mn_nat m 30
  have p := pow_30 (show min m 30 ≤ 30 by omega)
  rw [e, u64_nat (by omega), if_pos (by omega), shl_1 (by omega), if_neg (by omega), low_b (by omega)]
  have l := low_of n (b := min m 30) (by omega) n0 n1
  rw [w64_small (n := n) (by omega) (by omega)] at l
  rw [l]
theorem join_l0 {R S : Int} (R0 : isW R) (S0 : isW S) (a b : Int) : ∀ m k : Nat, m ≤ 30 → timeboundref08_Join.l0 (m + 1 + k) (m : Int) a R b S = some (low (shr2 R S m) R)
  | 0, k, h => by
    rw [show 0 + 1 + k = k + 1 by omega]
    simp only [timeboundref08_Join.l0]
    rw [if_neg (by omega), rlow_val R0.1 R0.2]
    rfl
  | m + 1, k, h => by
    rw [show m + 1 + 1 + k = (m + 1 + k) + 1 by omega]
    simp only [timeboundref08_Join.l0]
    have p := pow_30 h
    have r1 := R0.1; have r2 := R0.2; have s1 := S0.1; have s2 := S0.2
    rw [if_pos (by omega), u64_nat (by omega), if_pos (by omega), shl_1 h, if_neg (by omega), w64_small (n := R - S) (by omega) (by omega), shr2]
    by_cases d : (2 : Int) ^ (m + 1) ∣ R - S
    · rw [if_pos (Int.tmod_eq_zero_of_dvd d), if_pos d, rlow_val r1 r2, show min (m + 1) 30 = m + 1 by omega]
      rfl
    · rw [if_neg (fun z => d (Int.dvd_of_tmod_eq_zero z)), if_neg d, w64_small (by omega) (by omega), show ((m + 1 : Nat) : Int) - 1 = (m : Int) by omega]
      exact join_l0 R0 S0 a b m k (by omega)
theorem shr2_low {b c : Nat} (hb : Bt b) (hc : Bt c) (r s : Int) : shr2 (low b r).2 (low c s).2 (min (min b c) 30) = shr2 r s (min (min b c) 30) := by
  have dr := low_r hb r; have ds := low_r hc s
  have eqv : ∀ j, j ≤ min (min b c) 30 → ((2 : Int) ^ j ∣ (low b r).2 - (low c s).2 ↔ (2 : Int) ^ j ∣ r - s) := by
    intro j hj
    have d1 := dvd_mono (show j ≤ b by omega) dr
    have d2 := dvd_mono (show j ≤ c by omega) ds
    exact ⟨fun z => dvd_tri (dvd_sub_comm.1 d1) (dvd_tri z d2), fun z => dvd_tri d1 (dvd_tri z (dvd_sub_comm.1 d2))⟩
  have le := shr2_le r s (min (min b c) 30)
  refine shr2_is le ((eqv _ le).2 (shr2_dvd r s _)) (fun j hj hd => shr2_max ((eqv j hj).1 hd) _ hj)
theorem rjoin_val {x y : El} (hx : okE x) (hy : okE y) (k : Nat) : timeboundref08_Join.f (k + 31) (val x).1 (val x).2 (val y).1 (val y).2 = some (val (joinE x y)) := by
  unfold timeboundref08_Join.f timeboundref08_None.f
  rw [rform_val hx, rform_val hy]
  simp only [Option.bind_some]
  rcases x with _ | ⟨b, r⟩
  · rfl
  rcases y with _ | ⟨c, s⟩
  · rw [show ((val (some (b, r))).1 == -1 && (val (some (b, r))).2 == 0) = false from nv hx r, if_neg (by decide), if_pos (by rfl)]
    rfl
  rw [show ((val (some (b, r))).1 == -1 && (val (some (b, r))).2 == 0) = false from nv hx r, show ((val (some (c, s))).1 == -1 && (val (some (c, s))).2 == 0) = false from nv hy s, if_neg (by decide), if_neg (by decide), joinE_some]
  have hb : Bt b := hx
  have hc : Bt c := hy
  by_cases e : b = c ∧ (2 : Int) ^ b ∣ r - s
  · rw [if_pos e, if_pos]
    rw [beq_pair]
    show low b r = low c s
    obtain ⟨rfl, d⟩ := e
    exact (low_eq hb r s).2 d
  · rw [if_neg e, if_neg]
    · rw [show timeboundref08_Bits.f (k + 31) (val (some (b, r))).1 (val (some (b, r))).2 = some (b : Int) from rbits_val hb r k, show timeboundref08_Bits.f (k + 31) (val (some (c, s))).1 (val (some (c, s))).2 = some (c : Int) from rbits_val hc s k]
      simp only [Option.bind_some]
      rw [mn_nat, show mn ((min b c : Nat) : Int) 30 = ((min (min b c) 30 : Nat) : Int) from mn_nat _ 30]
      have wr := low_w hb r; have ws := low_w hc s
      have l := join_l0 (R := (low b r).2) (S := (low c s).2) wr ws (low b r).1 (low c s).1 (min (min b c) 30) (k + 30 - min (min b c) 30) (by omega)
      rw [show min (min b c) 30 + 1 + (k + 30 - min (min b c) 30) = k + 31 by omega, shr2_low hb hc] at l
      refine l.trans ?_
      congr 1
      have le := shr2_le r s (min (min b c) 30)
      show low _ _ = low _ _
      rw [low_eq (Or.inl (by omega))]
      exact dvd_mono (by omega) (low_r hb r)
    · rw [beq_pair]
      show ¬ low b r = low c s
      intro z
      by_cases ebc : b = c
      · subst ebc
        exact e ⟨rfl, (low_eq hb r s).1 z⟩
      · exact low_ne hb hc ebc r s z
end Go.Proofs.YtaphfmbloappkaaDoorG
