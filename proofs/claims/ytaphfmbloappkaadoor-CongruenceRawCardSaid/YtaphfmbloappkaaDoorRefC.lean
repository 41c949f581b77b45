/-
  What the reference's Do computes at valid residues, and that all functions agree. Conditions: for Do, the residues are valid.
-/
import Derived.Test.YtaphfmbloappkaaDoorRefB
import Derived.Test.YtaphfmbloappkaaDoorPAllx19
namespace Go.Proofs.YtaphfmbloappkaaDoorG
open Go.RowKit Go.Proofs.YtaphfmbloappkaaDoor Go.Proofs.YtaphfmbloappkaaDoorW.PrintWords Go.Proofs.YtaphfmbloappkaaDoorW.PrintMore PAll
set_option linter.unusedVariables false

theorem wdo_w (op a b : Int) : -2147483648 ≤ wdo op a b ∧ wdo op a b ≤ 2147483647 := by
  unfold wdo
  exact w32_bd _
theorem rdo1 (op a b : Int) : ∃ e : Int, timeboundref01_Do.f op a b = some (if 1 ≤ op ∧ op ≤ 14 then wdo op a b else 0, e) := by
  unfold timeboundref01_Do.f
  by_cases h : 1 ≤ op ∧ op ≤ 14
  · exact ⟨0, by rw [if_pos h, if_pos h]⟩
  · exact ⟨6, by rw [if_neg h, if_neg h]⟩
theorem rj3_val {x y : Int × Int} (op : Int) (k m : Nat) (b : Bool) (hm : m ≤ 30) (hx : isW x.2) (hy : isW y.2) (ho : op = 13 ∨ op = 14 ∨ b = false) :
    timeboundref08_Do.j3 (k + 1) op (m : Int) b x.1 x.2 y.1 y.2 = some (if b = true ∧ ¬ (2 : Int) ^ m ∣ x.2 - y.2 then low 32 (op - 13) else (1, 0)) := by
  simp only [timeboundref08_Do.j3]
  have p := pow_30 hm
  cases b
  · rw [if_neg (by decide), if_neg (fun z => by cases z.1)]; rfl
  · rw [if_pos rfl, u64_nat (by omega), if_pos (by omega), shl_1 hm, if_neg (by omega), w64_small (by omega) (by omega)]
    by_cases hd : (2 : Int) ^ m ∣ x.2 - y.2
    · rw [if_pos (Int.tmod_eq_zero_of_dvd hd), if_neg (fun z => z.2 hd)]; rfl
    · rw [if_neg (fun z => hd (Int.dvd_of_tmod_eq_zero z)), show (if true = true ∧ ¬ (2 : Int) ^ m ∣ x.2 - y.2 then low 32 (op - 13) else (1, 0)) = low 32 (op - 13) from if_pos ⟨rfl, hd⟩]
      rcases ho with h | h | h
      · subst h; rw [if_pos rfl, rof]; rfl
      · subst h; rw [if_neg (by decide), rof]; rfl
      · cases h
theorem rj2_val {b c : Nat} {r s : Int} (op : Int) (k : Nat) (hb : Bt b) (hc : Bt c) (h : ¬ (b = 32 ∧ c = 32)) :
    timeboundref08_Do.j2 (k + 32) op ((min b c : Nat) : Int) op (arith op) (low b r).1 (low b r).2 (low c s).1 (low c s).2 =
      some (val (if arith op = true then some (min b c, wdo op (rep b r) (rep c s)) else if op = 9 ∧ c = 32 then some (min (b + (s % 32).toNat) 30, rep b r * 2 ^ (s % 32).toNat)
        else if (op = 13 ∨ op = 14) ∧ ¬ (2 : Int) ^ (min b c) ∣ rep b r - rep c s then some (32, op - 13) else some (0, 0))) := by
  simp only [timeboundref08_Do.j2]
  have hk := bits_bd hb hc h
  cases ha : arith op
  · rw [if_neg (show ¬ (false = true) by decide), if_neg (show ¬ (false = true) by decide)]
    by_cases o9 : op = 9
    · subst o9
      rw [if_pos rfl]
      rcases hc with hc | rfl
      · have p := pow_30 hc
        rw [if_neg (show ¬ (low c s).1 = 0 by rw [low_b hc]; simp only; omega), if_neg (show ¬ ((9 : Int) = 9 ∧ c = 32) by omega), if_neg (by omega)]
        rfl
      · have hb' : b ≤ 30 := by rcases hb with z | z <;> omega
        have e : Go.bits .and .i64 (low 32 s).2 31 = s % 32 := by
          rw [and31]; exact w32_mod32 s
        obtain ⟨z, hz⟩ := rdo1 9 (low b r).2 (s % 32)
        rw [if_pos (by decide)] at hz
        have w := wdo_w 9 (low b r).2 (s % 32)
        rw [if_pos (show (low 32 s).1 = 0 from rfl), e, if_pos ⟨rfl, rfl⟩, hz]
        simp only [Option.bind_some]
        rw [show timeboundref08_Bits.f (k + 31) (low b r).1 (low b r).2 = some (b : Int) from rbits_val hb r k]
        simp only [Option.bind_some]
        rw [w64_small (by omega) (by omega), show (b : Int) + s % 32 = ((b + (s % 32).toNat : Nat) : Int) by omega, rlow_val w.1 w.2]
        simp only [Option.bind_some]
        congr 1
        show low _ _ = low _ _
        rw [low_eq (Or.inl (by omega))]
        have sc := shl_cong (b := b) (by omega) (i := rep b r) (r := rep b r) (s % 32) (by rw [Int.sub_self]; exact Int.dvd_zero _)
        rw [Int.emod_emod_of_dvd s (Int.dvd_refl 32)] at sc
        exact sc
    · rw [if_neg o9, if_neg (show ¬ (op = 9 ∧ c = 32) from fun z => o9 z.1)]
      have wr := low_w hb r; have ws := low_w hc s
      by_cases o13 : op = 13
      · subst o13
        rw [if_pos rfl, show ((13 : Int) == 13) = true from rfl]
        rw [rj3_val (x := low b r) (y := low c s) 13 (k + 30) _ true hk wr ws (Or.inl rfl)]
        by_cases hd : (2 : Int) ^ (min b c) ∣ (low b r).2 - (low c s).2
        · rw [if_neg (fun z => z.2 hd), if_neg (fun z => z.2 hd)]; rfl
        · rw [if_pos ⟨rfl, hd⟩, if_pos ⟨Or.inl rfl, hd⟩]; rfl
      · rw [if_neg o13]
        by_cases o14 : op = 14
        · subst o14
          rw [show ((14 : Int) == 14) = true from rfl]
          rw [rj3_val (x := low b r) (y := low c s) 14 (k + 30) _ true hk wr ws (Or.inr (Or.inl rfl))]
          by_cases hd : (2 : Int) ^ (min b c) ∣ (low b r).2 - (low c s).2
          · rw [if_neg (fun z => z.2 hd), if_neg (fun z => z.2 hd)]; rfl
          · rw [if_pos ⟨rfl, hd⟩, if_pos ⟨Or.inr rfl, hd⟩]; rfl
        · rw [show (op == 14) = false by simpa using o14]
          rw [rj3_val (x := low b r) (y := low c s) op (k + 30) _ false hk wr ws (Or.inr (Or.inr rfl)), if_neg (fun z => by cases z.1), if_neg (fun z => by omega)]; rfl
  · rw [if_pos rfl, if_pos rfl]
    obtain ⟨z, hz⟩ := rdo1 op (low b r).2 (low c s).2
    rw [if_pos (by unfold arith at ha; rw [decide_eq_true_eq] at ha; omega)] at hz
    have w := wdo_w op (low b r).2 (low c s).2
    rw [hz]
    simp only [Option.bind_some]
    rw [rlow_val w.1 w.2, show min (min b c) 30 = min b c by omega]
    rfl
theorem rj1_val {b c : Nat} {r s : Int} (op : Int) (k : Nat) (hb : Bt b) (hc : Bt c) (h : ¬ (b = 32 ∧ c = 32)) :
    timeboundref08_Do.j1 (k + 33) op false (low b r).1 (low b r).2 (low c s).1 (low c s).2 =
      some (val (if arith op = true then some (min b c, wdo op (rep b r) (rep c s)) else if op = 9 ∧ c = 32 then some (min (b + (s % 32).toNat) 30, rep b r * 2 ^ (s % 32).toNat)
        else if (op = 13 ∨ op = 14) ∧ ¬ (2 : Int) ^ (min b c) ∣ rep b r - rep c s then some (32, op - 13) else some (0, 0))) := by
  rw [← rj2_val op k hb hc h, arith_list]
  simp only [timeboundref08_Do.j1]
  rw [if_neg (by decide), show timeboundref08_Bits.f (k + 32) (low b r).1 (low b r).2 = some (b : Int) from rbits_val hb r (k + 1), show timeboundref08_Bits.f (k + 32) (low c s).1 (low c s).2 = some (c : Int) from rbits_val hc s (k + 1)]
  simp only [Option.bind_some]
  rw [mn_nat]
  by_cases o1 : op = 1
  · subst o1; rfl
  rw [if_neg o1]
  by_cases o2 : op = 2
  · subst o2; rfl
  rw [if_neg o2]
  by_cases o3 : op = 3
  · subst o3; rfl
  rw [if_neg o3]
  by_cases o6 : op = 6
  · subst o6; rfl
  rw [if_neg o6]
  by_cases o7 : op = 7
  · subst o7; rfl
  rw [if_neg o7]
  have e : (op == 1 || op == 2 || op == 3 || op == 6 || op == 7 || op == 8) = (op == 8) := by
    rw [Bool.eq_iff_iff]; simp only [Bool.or_eq_true, beq_iff_eq]; omega
  rw [e]
theorem rdo_s {b c : Nat} {r s : Int} (op : Int) (k : Nat) (hb : Bt b) (hc : Bt c) :
    timeboundref08_Do.f (k + 34) op (low b r).1 (low b r).2 (low c s).1 (low c s).2 = some (val (doE op (some (b, r)) (some (c, s)))) := by
  unfold timeboundref08_Do.f timeboundref08_None.f
  rw [show timeboundref08_Form.f (k + 34) (low b r).1 (low b r).2 = some (low b r) from rform_val (x := some (b, r)) hb (k + 3), show timeboundref08_Form.f (k + 34) (low c s).1 (low c s).2 = some (low c s) from rform_val (x := some (c, s)) hc (k + 3)]
  simp only [Option.bind_some]
  rw [nv hb, nv hc, if_neg (by decide), doE_some]
  simp only [timeboundref08_Do.j0]
  rw [if_neg (by decide)]
  by_cases h32 : b = 32 ∧ c = 32
  · obtain ⟨rfl, rfl⟩ := h32
    rw [if_pos (show (low 32 r).1 = 0 from rfl), show ((low 32 s).1 == 0) = true from rfl]
    simp only [timeboundref08_Do.j1]
    rw [if_pos trivial]
    unfold timeboundref01_Do.f timeboundref08_All.f
    by_cases ho : 1 ≤ op ∧ op ≤ 14
    · rw [if_pos ho, if_neg (fun z => z ho), if_pos (by decide)]
      simp only [Option.bind_some]
      rw [if_pos trivial, rof]
      simp only [Option.bind_some]
      show some (low 32 (wdo op (wrap32 r) (wrap32 s))) = some (low 32 (wdo op r s))
      rw [wdo_arg]
    · rw [if_neg ho, if_pos ho]
      simp only [Option.bind_some]
      rw [if_neg (by decide)]
      rfl
  · rw [if_neg h32]
    have j := rj1_val (r := r) (s := s) op k hb hc h32
    have e : (if (low b r).1 = 0 then timeboundref08_Do.j1 (k + 33) op ((low c s).1 == 0) (low b r).1 (low b r).2 (low c s).1 (low c s).2 else timeboundref08_Do.j1 (k + 33) op false (low b r).1 (low b r).2 (low c s).1 (low c s).2) = timeboundref08_Do.j1 (k + 33) op false (low b r).1 (low b r).2 (low c s).1 (low c s).2 := by
      split
      · rename_i z
        have hb32 : b = 32 := by
          rcases hb with hb | hb
          · have p := pow_30 hb; rw [low_b hb] at z; simp only at z; omega
          · exact hb
        have hc30 : c ≤ 30 := by rcases hc with hc | hc; exact hc; exact absurd ⟨hb32, hc⟩ h32
        have p := pow_30 hc30
        rw [show ((low c s).1 == 0) = false by rw [low_b hc30]; simp only [beq_eq_false_iff_ne]; omega]
      · rfl
    rw [e, j]
    by_cases ho : 1 ≤ op ∧ op ≤ 14
    · rw [if_neg (show ¬ ¬ (1 ≤ op ∧ op ≤ 14) from fun z => z ho)]
    · rw [if_pos (show ¬ (1 ≤ op ∧ op ≤ 14) from ho), if_neg (show ¬ arith op = true by unfold arith; rw [decide_eq_true_eq]; omega), if_neg (show ¬ (op = 9 ∧ c = 32) by omega), if_neg (by omega)]
theorem rdo_val {x y : El} (op : Int) (hx : okE x) (hy : okE y) (k : Nat) : timeboundref08_Do.f (k + 34) op (val x).1 (val x).2 (val y).1 (val y).2 = some (val (doE op x y)) := by
  have fx : timeboundref08_Form.f (k + 34) (val x).1 (val x).2 = some (val x) := rform_val hx (k + 3)
  have fy : timeboundref08_Form.f (k + 34) (val y).1 (val y).2 = some (val y) := rform_val hy (k + 3)
  rcases x with _ | ⟨b, r⟩
  · unfold timeboundref08_Do.f timeboundref08_None.f
    rw [fx, fy]
    simp only [Option.bind_some]
    rw [if_pos (by rfl)]
    simp only [timeboundref08_Do.j0]
    rw [if_pos trivial]; rfl
  · rcases y with _ | ⟨c, s⟩
    · unfold timeboundref08_Do.f timeboundref08_None.f
      rw [fx, fy]
      simp only [Option.bind_some]
      rw [if_neg (by rw [beq_pair]; exact low_non hx r)]
      simp only [timeboundref08_Do.j0]
      rw [if_pos (by rfl)]; rfl
    · exact rdo_s op k hx hy
/-- All functions agree, at any residues. -/
theorem agree_any (op a b c d n : Int) : timeboundlaw08_agree.f 40 op a b c d n = some true := by
  obtain ⟨x, hx, ex⟩ := fix_any a b
  obtain ⟨y, hy, ey⟩ := fix_any c d
  have fx := fix_val hx
  have fy := fix_val hy
  have rx : timeboundref08_Form.f 40 a b = some (val x) := (rform a b 9).trans ex
  have ry : timeboundref08_Form.f 40 c d = some (val y) := (rform c d 9).trans ey
  have rx' : timeboundref08_Form.f 40 (val x).1 (val x).2 = some (val x) := rform_val hx 9
  have ry' : timeboundref08_Form.f 40 (val y).1 (val y).2 = some (val y) := rform_val hy 9
  have d1 : congruence_Do.f 40 op a b c d = some (val (doE op x y)) := by
    have h := do_val op hx hy 36
    unfold congruence_Do.f at h ⊢
    rw [fx, fy] at h; rw [ex, ey]; exact h
  have d2 : timeboundref08_Do.f 40 op a b c d = some (val (doE op x y)) := by
    have h := rdo_val op hx hy 6
    unfold timeboundref08_Do.f at h ⊢
    rw [rx', ry'] at h; rw [rx, ry]; exact h
  have j1 : congruence_Join.f 40 a b c d = some (val (joinE x y)) := by
    have h := join_val hx hy 39
    unfold congruence_Join.f at h ⊢
    rw [fx, fy] at h; rw [ex, ey]; exact h
  have j2 : timeboundref08_Join.f 40 a b c d = some (val (joinE x y)) := by
    have h := rjoin_val hx hy 9
    unfold timeboundref08_Join.f at h ⊢
    rw [rx', ry'] at h; rw [rx, ry]; exact h
  have m1 : congruence_Meet.f 40 a b c d = some (val (meetE x y)) := by
    have h := meet_val' hx hy 39
    unfold congruence_Meet.f at h ⊢
    rw [fx, fy] at h; rw [ex, ey]; exact h
  have m2 : timeboundref08_Meet.f 40 a b c d = some (val (meetE x y)) := by
    have h := rmeet_val hx hy 9
    unfold timeboundref08_Meet.f at h ⊢
    rw [rx', ry'] at h; rw [rx, ry]; exact h
  have l1 : congruence_Leq.f 40 a b c d = some (leE x y) := by
    have h := leq_val hx hy 39
    unfold congruence_Leq.f at h ⊢
    rw [fx, fy] at h; rw [ex, ey]; exact h
  have l2 : timeboundref08_Leq.f 40 a b c d = some (leE x y) := by
    have h := rleq_val hx hy 9
    unfold timeboundref08_Leq.f at h ⊢
    rw [rx', ry'] at h; rw [rx, ry]; exact h
  have h1 : congruence_Has.f 40 a b n = some (hasE x n) := by
    have h := has_val hx n 39
    unfold congruence_Has.f at h ⊢
    rw [fx] at h; rw [ex]; exact h
  have h2 : timeboundref08_Has.f 40 a b n = some (hasE x n) := by
    have h := rhas_val hx n 9
    unfold timeboundref08_Has.f at h ⊢
    rw [rx'] at h; rw [rx]; exact h
  obtain ⟨v, hv⟩ : ∃ v, congruence_Valid.f a b = some v := by
    cases e : congruence_Valid.f a b with
    | none => unfold congruence_Fix.f at ex; rw [e] at ex; cases ex
    | some v => exact ⟨v, rfl⟩
  have v2 : timeboundref08_Valid.f 40 a b = some v := (rvalid a b 9).trans hv
  have bt : ∀ p : Int × Int, (p.1 == p.1 && p.2 == p.2) = true := fun p => beq_pair.2 rfl
  unfold timeboundlaw08_agree.f
  rw [d1, d2, j1, j2, m1, m2, l1, l2, h1, h2, hv, v2, of_w, rof]
  simp only [Option.bind_some]
  rw [if_pos (bt _), if_pos (bt _), if_pos (bt _), if_pos (beq_self_eq_true _), if_pos (beq_self_eq_true _), if_pos (beq_self_eq_true _), bt]
theorem raw_pure (op a b c d n : Int) : timeboundlaw08_CongruenceRaw.f 40 op a b c d n = some true := by
  unfold timeboundlaw08_CongruenceRaw.f congruence_All.f congruence_None.f timeboundref08_All.f timeboundref08_None.f
  rw [agree_any, awake_val 36]
  rfl
theorem made_pure {op a b h k : Int} (a0 : -2147483648 ≤ a) (a1 : a ≤ 2147483647) (b0 : -2147483648 ≤ b) (b1 : b ≤ 2147483647) (h0 : 0 ≤ h) (h1 : h ≤ 255) (k0 : 0 ≤ k) (k1 : k ≤ 255) : timeboundlaw08_CongruenceMade.f 40 op a b h k = some true := by
  unfold timeboundlaw08_CongruenceMade.f
  obtain ⟨x, hx, ex⟩ := of_val a0 a1 h0 h1
  obtain ⟨y, hy, ey⟩ := of_val b0 b1 k0 k1
  rw [ex, ey]
  simp only [Option.bind_some]
  rw [agree_any, awake_val 36]
  rfl
end Go.Proofs.YtaphfmbloappkaaDoorG
