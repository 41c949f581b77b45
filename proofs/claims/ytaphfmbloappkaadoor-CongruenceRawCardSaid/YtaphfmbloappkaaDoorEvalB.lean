/-
  What the walks of the operators, of the law's helpers and of 'awake' compute, at valid residues. Conditions: the residues are valid; the helpers' arguments are of their kinds.
-/
import Derived.Test.YtaphfmbloappkaaDoorEvalA
namespace Go.Proofs.YtaphfmbloappkaaDoorG
open Go.RowKit Go.Proofs.YtaphfmbloappkaaDoor Go.Proofs.YtaphfmbloappkaaDoorW.PrintWords Go.Proofs.YtaphfmbloappkaaDoorW.PrintMore PAll
set_option linter.unusedVariables false

theorem shl_val {x c : Int} (h0 : 0 ≤ c) (h1 : c ≤ 62) (h2 : -9223372036854775808 ≤ x * 2 ^ c.toNat) (h3 : x * 2 ^ c.toNat ≤ 9223372036854775807) : shl .i64 x c = x * 2 ^ c.toNat := by
  unfold shl
  rw [show min c.toNat (IntKind.bits .i64) = c.toNat by show min c.toNat 64 = _; omega]
  exact (Go.Proofs.YtaphfmbloappkaaDoorW.PrintLast.i64_w _).trans (w64_small h2 h3)
theorem shl_1 {c : Nat} (h : c ≤ 30) : shl .i64 1 (c : Int) = 2 ^ c := by
  have p := pow_30 h
  rw [shl_val (by omega) (by omega) (by rw [Int.toNat_natCast]; omega) (by rw [Int.toNat_natCast]; omega), Int.toNat_natCast, Int.one_mul]
theorem j3_val {x y : Int × Int} (op : Int) (k m : Nat) (b : Bool) (hm : m ≤ 30) (hx : isW x.2) (hy : isW y.2) (ho : op = 13 ∨ op = 14 ∨ b = false) :
    congruence_Do.j3 (k + 1) op (m : Int) b x.1 x.2 y.1 y.2 = some (if b = true ∧ ¬ (2 : Int) ^ m ∣ x.2 - y.2 then low 32 (op - 13) else (1, 0)) := by
  simp only [congruence_Do.j3]
  have p := pow_30 hm
  cases b
  · rw [if_neg (by decide), if_neg (fun z => by cases z.1)]; rfl
  · rw [if_pos rfl, if_pos (by omega), shl_1 hm, if_neg (by omega), w64_small (by omega) (by omega)]
    by_cases hd : (2 : Int) ^ m ∣ x.2 - y.2
    · rw [if_pos (Int.tmod_eq_zero_of_dvd hd), if_neg (fun z => z.2 hd)]; rfl
    · rw [if_neg (fun z => hd (Int.dvd_of_tmod_eq_zero z)), if_pos ⟨rfl, hd⟩, of_w]
      simp only [Option.bind_some]
      have : wrap64 (op - 13) = op - 13 := by
        rcases ho with h | h | h
        · subst h; unfold wrap64; decide
        · subst h; unfold wrap64; decide
        · cases h
      rw [this]
theorem arith_list (op : Int) : arith op = (op == 1 || op == 2 || op == 3 || op == 6 || op == 7 || op == 8) := by
  unfold arith
  rw [Bool.eq_iff_iff]
  simp only [Bool.or_eq_true, beq_iff_eq, decide_eq_true_eq]
  omega
theorem j2_val {b c : Nat} {r s : Int} (op n : Int) (k : Nat) (hb : Bt b) (hc : Bt c) (h : ¬ (b = 32 ∧ c = 32)) (ho : 1 ≤ op ∧ op ≤ 14) :
    congruence_Do.j2 (k + 2) op n ((min b c : Nat) : Int) op (arith op) (low b r).1 (low b r).2 (low c s).1 (low c s).2 =
      some (if arith op = true then low (min b c) n else val (if op = 9 ∧ c = 32 then some (min (b + (s % 32).toNat) 30, rep b r * 2 ^ (s % 32).toNat)
        else if (op = 13 ∨ op = 14) ∧ ¬ (2 : Int) ^ (min b c) ∣ rep b r - rep c s then some (32, op - 13) else some (0, 0))) := by
  simp only [congruence_Do.j2]
  have hk := bits_bd hb hc h
  cases ha : arith op
  · rw [if_neg (show ¬ (false = true) by decide), if_neg (show ¬ (false = true) by decide)]
    by_cases o9 : op = 9
    · subst o9
      rw [if_pos rfl]
      rcases hc with hc | rfl
      · have p := pow_30 hc
        rw [if_neg (show ¬ (low c s).1 = 0 by rw [low_b hc]; simp only; omega), if_neg (show ¬ ((9 : Int) = 9 ∧ c = 32) by omega), if_neg (by omega)]
        rfl
      · have hb' : b ≤ 30 := by rcases hb with z | z <;> omega
        have e : Go.bits .and .i64 (low 32 s).2 31 = s % 32 := by
          rw [and31]; exact w32_mod32 s
        have q := bd_b hb' r
        have p := pow_30 hb'
        have er : (low b r).2 = r % 2 ^ b := by rw [low_b hb']
        have c0 : (2 : Int) ^ (s % 32).toNat ≤ 2147483648 := by
          have := pow_le (show (s % 32).toNat ≤ 31 by omega)
          have h31 : (2 : Int) ^ 31 = 2147483648 := by decide
          omega
        have c1 := pow_pos' (s % 32).toNat
        have m0 : 0 ≤ (low b r).2 * 2 ^ (s % 32).toNat := Int.mul_nonneg (by omega) (by omega)
        have m1 : (low b r).2 * 2 ^ (s % 32).toNat ≤ 1073741824 * 2147483648 := Int.mul_le_mul (by omega) c0 (by omega) (by omega)
        rw [if_pos (show (low 32 s).1 = 0 from rfl), e, if_pos (by omega), if_pos ⟨rfl, rfl⟩, width_val hb r]
        simp only [Option.bind_some]
        rw [shl_val (by omega) (by omega) (by omega) (by omega), w64_small (by omega) (by omega), mod_val _ (by omega), show ((b : Int) + s % 32).toNat = b + (s % 32).toNat by omega]
        rfl
    · rw [if_neg o9, if_neg (show ¬ (op = 9 ∧ c = 32) from fun z => o9 z.1)]
      have wr := low_w hb r; have ws := low_w hc s
      by_cases o13 : op = 13
      · subst o13
        rw [if_pos rfl, show ((13 : Int) == 13) = true from rfl]
        rw [j3_val (x := low b r) (y := low c s) 13 k _ true hk wr ws (Or.inl rfl)]
        by_cases hd : (2 : Int) ^ (min b c) ∣ (low b r).2 - (low c s).2
        · rw [if_neg (fun z => z.2 hd), if_neg (fun z => z.2 hd)]; rfl
        · rw [if_pos ⟨rfl, hd⟩, if_pos ⟨Or.inl rfl, hd⟩]; rfl
      · rw [if_neg o13]
        by_cases o14 : op = 14
        · subst o14
          rw [show ((14 : Int) == 14) = true from rfl]
          rw [j3_val (x := low b r) (y := low c s) 14 k _ true hk wr ws (Or.inr (Or.inl rfl))]
          by_cases hd : (2 : Int) ^ (min b c) ∣ (low b r).2 - (low c s).2
          · rw [if_neg (fun z => z.2 hd), if_neg (fun z => z.2 hd)]; rfl
          · rw [if_pos ⟨rfl, hd⟩, if_pos ⟨Or.inr rfl, hd⟩]; rfl
        · rw [show (op == 14) = false by simpa using o14]
          rw [j3_val (x := low b r) (y := low c s) op k _ false hk wr ws (Or.inr (Or.inr rfl)), if_neg (fun z => by cases z.1), if_neg (fun z => by omega)]; rfl
  · rw [if_pos rfl, if_pos rfl, mod_val _ (by omega), Int.toNat_natCast, show min (min b c) 30 = min b c by omega]
    rfl
theorem j1_val {b c : Nat} {r s : Int} (op n : Int) (k : Nat) (hb : Bt b) (hc : Bt c) (h : ¬ (b = 32 ∧ c = 32)) (ho : 1 ≤ op ∧ op ≤ 14) :
    congruence_Do.j1 (k + 3) op n false (low b r).1 (low b r).2 (low c s).1 (low c s).2 =
      some (if arith op = true then low (min b c) n else val (if op = 9 ∧ c = 32 then some (min (b + (s % 32).toNat) 30, rep b r * 2 ^ (s % 32).toNat)
        else if (op = 13 ∨ op = 14) ∧ ¬ (2 : Int) ^ (min b c) ∣ rep b r - rep c s then some (32, op - 13) else some (0, 0))) := by
  rw [← j2_val op n k hb hc h ho, arith_list]
  simp only [congruence_Do.j1]
  rw [if_neg (by decide), width_val hb, width_val hc]
  simp only [Option.bind_some]
  rw [mn_nat]
  by_cases o1 : op = 1
  · subst o1; rfl
  rw [if_neg o1]
  by_cases o2 : op = 2
  · subst o2; rfl
  rw [if_neg o2]
  by_cases o3 : op = 3
  · subst o3; rfl
  rw [if_neg o3]
  by_cases o6 : op = 6
  · subst o6; rfl
  rw [if_neg o6]
  by_cases o7 : op = 7
  · subst o7; rfl
  rw [if_neg o7]
  have e : (op == 1 || op == 2 || op == 3 || op == 6 || op == 7 || op == 8) = (op == 8) := by
    rw [Bool.eq_iff_iff]; simp only [Bool.or_eq_true, beq_iff_eq]; omega
  rw [e]
theorem do_s {b c : Nat} {r s : Int} (op : Int) (k : Nat) (hb : Bt b) (hc : Bt c) :
    congruence_Do.f (k + 4) op (low b r).1 (low b r).2 (low c s).1 (low c s).2 = some (val (doE op (some (b, r)) (some (c, s)))) := by
  have fx := fix_val (x := some (b, r)) hb
  have fy := fix_val (x := some (c, s)) hc
  have nx := low_non hb r; have ny := low_non hc s
  unfold congruence_Do.f congruence_None.f
  rw [show congruence_Fix.f (low b r).1 (low b r).2 = some (low b r) from fx, show congruence_Fix.f (low c s).1 (low c s).2 = some (low c s) from fy]
  simp only [Option.bind_some]
  rw [if_neg (by rw [beq_pair]; exact nx), show ((low c s).1 == -1 && (low c s).2 == 0) = false by rw [← Bool.not_eq_true, beq_pair]; exact ny, doE_some]
  simp only [congruence_Do.j0]
  rw [if_neg (by decide)]
  unfold word_Do.f
  by_cases ho : 1 ≤ op ∧ op ≤ 14
  · rw [if_pos ho, if_neg (fun z => z ho)]
    simp only [Option.bind_some]
    rw [if_pos trivial]
    by_cases h32 : b = 32 ∧ c = 32
    · obtain ⟨rfl, rfl⟩ := h32
      rw [if_pos (show (low 32 r).1 = 0 from rfl), if_pos ⟨rfl, rfl⟩, show ((low 32 s).1 == 0) = true from rfl]
      simp only [congruence_Do.j1]
      rw [if_pos trivial, of_w]
      simp only [Option.bind_some]
      show some (low 32 (wdo op (wrap32 r) (wrap32 s))) = some (low 32 (wdo op r s))
      rw [wdo_arg]
    · rw [if_neg h32]
      have j := j1_val (r := r) (s := s) op (wdo op (low b r).2 (low c s).2) k hb hc h32 ho
      have e : ∀ x : Bool, (if (low b r).1 = 0 then congruence_Do.j1 (k + 3) op (wdo op (low b r).2 (low c s).2) ((low c s).1 == 0) (low b r).1 (low b r).2 (low c s).1 (low c s).2 else congruence_Do.j1 (k + 3) op (wdo op (low b r).2 (low c s).2) false (low b r).1 (low b r).2 (low c s).1 (low c s).2) = congruence_Do.j1 (k + 3) op (wdo op (low b r).2 (low c s).2) false (low b r).1 (low b r).2 (low c s).1 (low c s).2 := by
        intro _
        split
        · rename_i z
          have hb32 : b = 32 := by
            rcases hb with hb | hb
            · have p := pow_30 hb; rw [low_b hb] at z; simp only at z; omega
            · exact hb
          have hc30 : c ≤ 30 := by rcases hc with hc | hc; exact hc; exact absurd ⟨hb32, hc⟩ h32
          have p := pow_30 hc30
          rw [show ((low c s).1 == 0) = false by rw [low_b hc30]; simp only [beq_eq_false_iff_ne]; omega]
        · rfl
      rw [e true, j]
      cases arith op <;> rfl
  · rw [if_neg ho, if_pos ho]
    simp only [Option.bind_some]
    rw [if_neg (by decide)]
    rfl
theorem do_val {x y : El} (op : Int) (hx : okE x) (hy : okE y) (k : Nat) : congruence_Do.f (k + 4) op (val x).1 (val x).2 (val y).1 (val y).2 = some (val (doE op x y)) := by
  have fx := fix_val hx
  have fy := fix_val hy
  rcases x with _ | ⟨b, r⟩
  · unfold congruence_Do.f congruence_None.f
    rw [fx, fy]
    simp only [Option.bind_some]
    rw [if_pos (by rfl)]
    simp only [congruence_Do.j0]
    rw [if_pos trivial]; rfl
  · rcases y with _ | ⟨c, s⟩
    · unfold congruence_Do.f congruence_None.f
      rw [fx, fy]
      simp only [Option.bind_some]
      rw [if_neg (by rw [beq_pair]; exact low_non hx r)]
      simp only [congruence_Do.j0]
      rw [if_pos (by rfl)]; rfl
    · exact do_s op k hx hy
theorem awake_val (k : Nat) : timeboundlaw08_awake.f (k + 4) = some true := by
  unfold timeboundlaw08_awake.f
  rw [of_w, of_w]
  simp only [Option.bind_some]
  have j := join_val (x := some (32, 3)) (y := some (32, 11)) (Or.inr rfl) (Or.inr rfl) (k + 3)
  have e : val (joinE (some (32, 3)) (some (32, 11))) = (8, 3) := by decide +kernel
  rw [e] at j
  have j' : congruence_Join.f (k + 4) (low 32 3).1 (low 32 3).2 (low 32 11).1 (low 32 11).2 = some (8, 3) := j
  rw [j']
  simp only [Option.bind_some]
  rw [if_pos (by decide)]
  have d := do_val (x := some (2, 1)) (y := some (1, 1)) 1 (Or.inl (by omega)) (Or.inl (by omega)) k
  have e : val (doE 1 (some (2, 1)) (some (1, 1))) = (2, 0) := by decide +kernel
  rw [e] at d
  have d' : congruence_Do.f (k + 4) 1 4 1 2 1 = some (2, 0) := d
  rw [d']
  rfl
/-- What 'of' gives is a valid residue. -/
theorem low_of (a : Int) {b : Nat} (hb : b ≤ 30) (a0 : -2147483648 ≤ a) (a1 : a ≤ 2147483647) : Int.tmod (wrap64 (Int.tmod (wrap64 a) (2 ^ b) + 2 ^ b)) (2 ^ b) = a % 2 ^ b := by
  have p := pow_30 hb
  have e := Int.tmod_add_mul_tdiv a (2 ^ b)
  have bd : -(2 ^ b) < Int.tmod a (2 ^ b) ∧ Int.tmod a (2 ^ b) < 2 ^ b := by
    have h1 : (Int.tmod a (2 ^ b)).natAbs < ((2 : Int) ^ b).natAbs := by
      rw [Int.natAbs_tmod]; exact Nat.mod_lt _ (by omega)
    omega
  rw [w64_small (n := a) (by omega) (by omega), w64_small (by omega) (by omega), Int.tmod_eq_emod_of_nonneg (by omega), Int.add_emod_right]
  rw [emod_iff]
  exact ⟨-(a.tdiv (2 ^ b)), by rw [Int.mul_neg]; omega⟩
theorem of_val {a h : Int} (a0 : -2147483648 ≤ a) (a1 : a ≤ 2147483647) (h0 : 0 ≤ h) (h1 : h ≤ 255) : ∃ x : El, okE x ∧ timeboundlaw08_of.f a h = some (val x) := by
  have t36 : Int.tmod h 36 = h % 36 := Int.tmod_eq_emod_of_nonneg h0
  have t5 : Int.tmod h 5 = h % 5 := Int.tmod_eq_emod_of_nonneg h0
  have wa : wrap64 a = a := w64_small (by omega) (by omega)
  unfold timeboundlaw08_of.f
  rw [t36, t5]
  by_cases c35 : h % 36 = 35
  · rw [if_pos c35]; exact ⟨none, trivial, rfl⟩
  rw [if_neg c35]
  by_cases c30 : h % 36 > 30
  · rw [if_pos c30, of_w]; exact ⟨some (32, wrap64 a), Or.inr rfl, rfl⟩
  rw [if_neg c30]
  have u36 : IntKind.u64.wrap (h % 36) = ((h % 36).toNat : Int) := by rw [IntKind.wrap_u64]; omega
  have u5 : IntKind.u64.wrap (h % 5) = ((h % 5).toNat : Int) := by rw [IntKind.wrap_u64]; omega
  rw [u36, u5, if_pos (by omega)]
  have q36 := pow_30 (show (h % 36).toNat ≤ 30 by omega)
  have q5 := pow_30 (show (h % 5).toNat ≤ 30 by omega)
  by_cases c150 : h > 150
  · rw [if_pos c150, if_pos (by omega), shl_1 (by omega), if_neg (by omega), low_of a (by omega) a0 a1]
    exact ⟨some ((h % 5).toNat, a), Or.inl (by omega), by rw [val_b (by omega)]⟩
  · rw [if_neg c150, shl_1 (by omega), if_neg (by omega), low_of a (by omega) a0 a1]
    exact ⟨some ((h % 36).toNat, a), Or.inl (by omega), by rw [val_b (by omega)]⟩
/-- What 'member' gives is a word of the residue. -/
theorem member_val {b : Nat} {r : Int} (hb : Bt b) {n : Int} (n0 : 0 ≤ n) (n1 : n ≤ 4294967295) : ∃ i : Int, isW i ∧ leE (some (32, i)) (some (b, r)) = true ∧ timeboundlaw08_member.f (low b r).1 (low b r).2 n = some i := by
  rcases hb with h | rfl
  · have p := pow_30 h
    have m := bd_b h r
    rw [low_b h]
    show ∃ i : Int, isW i ∧ leE (some (32, i)) (some (b, r)) = true ∧ timeboundlaw08_member.f (2 ^ b) (r % 2 ^ b) n = some i
    have k0 : 0 ≤ (2 : Int) ^ b * n := Int.mul_nonneg (by omega) n0
    have k1 : (2 : Int) ^ b * n ≤ 1073741824 * 4294967295 := Int.mul_le_mul p.2 n1 n0 (by omega)
    refine ⟨wrap32 (r % 2 ^ b + 2 ^ b * n), isW_w _, ?_, ?_⟩
    · simp only [leE, decide_eq_true_eq]
      refine ⟨by omega, ?_⟩
      have e1 := dvd_mono (show b ≤ 32 by omega) (w32_dvd (r % 2 ^ b + 2 ^ b * n))
      have e2 : (2 : Int) ^ b ∣ r % 2 ^ b + 2 ^ b * n - r := by
        have := Int.dvd_add m.2.2 (Int.dvd_mul_right (2 ^ b) n)
        rwa [show r % 2 ^ b - r + 2 ^ b * n = r % 2 ^ b + 2 ^ b * n - r by omega] at this
      exact dvd_tri e1 e2
    · unfold timeboundlaw08_member.f timeboundref01_Wrap.f
      rw [if_neg (by omega), w64_small (n := n) (by omega) (by omega), w64_small (n := 2 ^ b * n) (by omega) (by omega), w64_small (n := r % 2 ^ b + 2 ^ b * n) (by omega) (by omega)]
      simp only [Option.bind_some]
      congr 1
      rw [IntKind.wrap_u64]
      exact w_mod2 _
  · rw [low_32]
    exact ⟨wrap32 r, isW_w r, le_mk (Nat.le_refl _) (w32_dvd r), rfl⟩
theorem op14 {o : Int} (o0 : 0 ≤ o) (o1 : o ≤ 255) : wrap64 (1 + (Int.tmod (wrap64 o) 14)) = 1 + o % 14 := by
  rw [w64_small (n := o) (by omega) (by omega), Int.tmod_eq_emod_of_nonneg o0]
  exact w64_small (by omega) (by omega)
theorem none_val {x : El} (hx : okE x) : ((val x).1 == -1 && (val x).2 == 0) = x.isNone := by
  rcases x with _ | ⟨c, r⟩
  · rfl
  · show ((val (some (c, r))).1 == -1 && (val (some (c, r))).2 == 0) = false
    rw [← Bool.not_eq_true, beq_pair]; exact low_non hx r
end Go.Proofs.YtaphfmbloappkaaDoorG
