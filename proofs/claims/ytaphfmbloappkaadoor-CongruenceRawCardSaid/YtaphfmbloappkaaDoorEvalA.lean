/-
  What the walks of the congruence layer compute, at valid residues: the plain residues' own functions. Conditions: the residues are valid.
-/
import Derived.Test.YtaphfmbloappkaaDoorPAllx3
import Derived.Test.YtaphfmbloappkaaDoorPAllx4
import Derived.Test.YtaphfmbloappkaaDoorPAllx5
import Derived.Test.YtaphfmbloappkaaDoorPAllx7
import Derived.Test.YtaphfmbloappkaaDoorPlain3
namespace Go.Proofs.YtaphfmbloappkaaDoorG
open Go.RowKit Go.Proofs.YtaphfmbloappkaaDoor Go.Proofs.YtaphfmbloappkaaDoorW.PrintWords Go.Proofs.YtaphfmbloappkaaDoorW.PrintMore PAll
set_option linter.unusedVariables false

theorem w64_small {n : Int} (h0 : -9223372036854775808 ≤ n) (h1 : n ≤ 9223372036854775807) : wrap64 n = n := by unfold wrap64; omega
theorem beq_pair {a b c d : Int} : (a == c && b == d) = true ↔ (a, b) = (c, d) := by simp
theorem andm {b : Nat} (h : b ≤ 30) (n : Int) : Go.bits .and .i64 n (wrap64 (2 ^ b - 1)) = n % 2 ^ b := by
  have := pow_30 h
  rw [w64_small (by omega) (by omega)]
  exact and_pow n b (by omega)
theorem is_val {n : Int} : word_Is.f n = some (decide (isW n)) := by
  unfold word_Is.f
  split
  · congr 1; rw [Bool.eq_iff_iff]; simp only [decide_eq_true_eq]; omega
  · congr 1; exact (decide_eq_false (by omega)).symm
theorem of_w (n : Int) : congruence_Of.f n = some (low 32 n) := by
  unfold congruence_Of.f word_Wrap.f
  simp only [Option.bind_some]
  rw [w_mod, low_32]
theorem nb {b : Nat} (h : b ≤ 30) (r : Int) : ((2 : Int) ^ b == -1 && r == 0) = false := by
  have p := pow_30 h
  have : ((2 : Int) ^ b == -1) = false := by rw [beq_eq_false_iff_ne]; omega
  rw [this]; rfl
theorem nw (r : Int) : ((0 : Int) == -1 && r == 0) = false := rfl
theorem fix_b {b : Nat} (h : b ≤ 30) (r : Int) : congruence_Valid.f (2 ^ b) (r % 2 ^ b) = some true ∧ congruence_Fix.f (2 ^ b) (r % 2 ^ b) = some (2 ^ b, r % 2 ^ b) := by
  have p := pow_30 h
  have n := bd_b h r
  have v : congruence_Valid.f (2 ^ b) (r % 2 ^ b) = some true := by
    unfold congruence_Valid.f
    rw [if_neg (by omega), if_neg (by omega), if_pos (by omega), if_pos (by omega), andm h, if_pos Int.emod_self, if_pos n.1, decide_eq_true n.2.1]
  refine ⟨v, ?_⟩
  unfold congruence_Fix.f
  rw [v]
  simp only [Option.bind_some, if_true]
theorem fix_32 {r : Int} (h : isW r) : congruence_Valid.f 0 r = some true ∧ congruence_Fix.f 0 r = some (0, r) := by
  have v : congruence_Valid.f 0 r = some true := by
    unfold congruence_Valid.f
    rw [if_neg (by decide), if_pos rfl, is_val, decide_eq_true h]
    rfl
  refine ⟨v, ?_⟩
  unfold congruence_Fix.f
  rw [v]
  simp only [Option.bind_some, if_true]
theorem fix_n : congruence_Valid.f (-1) 0 = some true ∧ congruence_Fix.f (-1) 0 = some (-1, 0) := by
  have v : congruence_Valid.f (-1) 0 = some true := rfl
  refine ⟨v, ?_⟩
  unfold congruence_Fix.f
  rw [v]
  simp only [Option.bind_some, if_true]
theorem valid_val {x : El} (hx : okE x) : congruence_Valid.f (val x).1 (val x).2 = some true := by
  rcases x with _ | ⟨b, r⟩
  · exact fix_n.1
  · rcases hx with h | rfl
    · rw [val_b h]; exact (fix_b h r).1
    · rw [val_32]; exact (fix_32 (isW_w r)).1
theorem fix_val {x : El} (hx : okE x) : congruence_Fix.f (val x).1 (val x).2 = some (val x) := by
  rcases x with _ | ⟨b, r⟩
  · exact fix_n.2
  · rcases hx with h | rfl
    · rw [val_b h]; exact (fix_b h r).2
    · rw [val_32]; exact (fix_32 (isW_w r)).2
theorem tmod_iff {m n : Int} : (Int.tmod n m == 0) = decide (m ∣ n) := by
  rw [Bool.eq_iff_iff, beq_iff_eq, decide_eq_true_eq]; exact Int.dvd_iff_tmod_eq_zero.symm
theorem has_off (a b n : Int) (p : Int × Int) (k : Nat) (hf : congruence_Fix.f a b = some p) (h : ¬ isW n) : congruence_Has.f (k + 1) a b n = some false := by
  unfold congruence_Has.f
  rw [hf, is_val]
  simp only [Option.bind_some]
  rw [if_neg (by rw [decide_eq_true_eq]; exact h)]
  simp only [congruence_Has.j0]
  rw [if_pos trivial]
theorem has_b {b : Nat} (h : b ≤ 30) (r n : Int) (k : Nat) (hw : isW n) : congruence_Has.f (k + 1) (2 ^ b) (r % 2 ^ b) n = some (decide ((2 : Int) ^ b ∣ n - r % 2 ^ b)) := by
  have p := pow_30 h
  have m := bd_b h r
  unfold congruence_Has.f congruence_None.f
  rw [(fix_b h r).2, is_val]
  simp only [Option.bind_some]
  rw [if_pos (decide_eq_true hw), nb h]
  simp only [congruence_Has.j0]
  rw [if_neg (by simp), if_neg (by omega), w64_small (by omega) (by omega), tmod_iff]
theorem has_32 {r : Int} (h : isW r) (n : Int) (k : Nat) (hw : isW n) : congruence_Has.f (k + 1) 0 r n = some (n == r) := by
  unfold congruence_Has.f congruence_None.f
  rw [(fix_32 h).2, is_val]
  simp only [Option.bind_some]
  rw [if_pos (decide_eq_true hw), nw]
  simp only [congruence_Has.j0]
  rw [if_neg (by simp), if_pos trivial]
theorem has_n (n : Int) (k : Nat) : congruence_Has.f (k + 1) (-1) 0 n = some false := by
  by_cases hw : isW n
  · unfold congruence_Has.f congruence_None.f
    rw [fix_n.2, is_val]
    simp only [Option.bind_some]
    rw [if_pos (decide_eq_true hw)]
    simp only [congruence_Has.j0]
    rw [if_pos (by decide)]
  · exact has_off _ _ n _ k fix_n.2 hw
theorem has_val {x : El} (hx : okE x) (n : Int) (k : Nat) : congruence_Has.f (k + 1) (val x).1 (val x).2 n = some (hasE x n) := by
  rcases x with _ | ⟨b, r⟩
  · exact has_n n k
  by_cases hw : isW n
  · rcases hx with h | rfl
    · rw [val_b h]
      refine (has_b h r n k hw).trans ?_
      congr 1
      simp only [hasE]
      rw [Bool.eq_iff_iff, decide_eq_true_eq, decide_eq_true_eq]
      have e := (bd_b h r).2.2
      exact ⟨fun z => ⟨hw, dvd_tri z e⟩, fun z => dvd_tri z.2 (dvd_sub_comm.1 e)⟩
    · rw [val_32]
      refine (has_32 (isW_w r) n k hw).trans ?_
      congr 1
      simp only [hasE]
      rw [Bool.eq_iff_iff, beq_iff_eq, decide_eq_true_eq, ← w32_iff, w32_of n hw.1 hw.2]
      exact ⟨fun z => ⟨hw, z⟩, fun z => z.2⟩
  · refine (has_off _ _ n _ k (fix_val hx) hw).trans ?_
    congr 1
    simp only [hasE]
    exact (decide_eq_false (fun z => hw z.1)).symm
theorem leq_w {y : El} (hy : okE y) {r : Int} (h : isW r) (k : Nat) : congruence_Leq.f (k + 1) 0 r (val y).1 (val y).2 = some (hasE y r) := by
  unfold congruence_Leq.f congruence_None.f
  rw [(fix_32 h).2, fix_val hy]
  simp only [Option.bind_some]
  rw [nw, if_neg (by decide), if_pos trivial, has_val hy]
  rfl
theorem leq_b {b c : Nat} (h : b ≤ 30) (h' : c ≤ 30) (r s : Int) (k : Nat) : congruence_Leq.f (k + 1) (2 ^ b) (r % 2 ^ b) (2 ^ c) (s % 2 ^ c) = some (decide (c ≤ b ∧ (2 : Int) ^ c ∣ r % 2 ^ b - s % 2 ^ c)) := by
  have p := pow_30 h; have p' := pow_30 h'
  have m := bd_b h r; have m' := bd_b h' s
  unfold congruence_Leq.f congruence_None.f
  rw [(fix_b h r).2, (fix_b h' s).2]
  simp only [Option.bind_some]
  rw [nb h, if_neg (by decide), if_neg (by omega), if_pos (by omega)]
  by_cases hc : c ≤ b
  · rw [if_pos (pow_le hc), if_neg (by omega), w64_small (by omega) (by omega), tmod_iff]
    congr 1
    rw [Bool.eq_iff_iff, decide_eq_true_eq, decide_eq_true_eq]
    exact ⟨fun z => ⟨hc, z⟩, fun z => z.2⟩
  · rw [if_neg (fun z => hc (pow_le_iff.1 z))]
    congr 1
    exact (decide_eq_false (fun z => hc z.1)).symm
theorem leq_bx {b : Nat} (h : b ≤ 30) (r : Int) {c d : Int} (hf : congruence_Fix.f c d = some (c, d)) (hc : c < 1) (k : Nat) : congruence_Leq.f (k + 1) (2 ^ b) (r % 2 ^ b) c d = some false := by
  have p := pow_30 h
  unfold congruence_Leq.f congruence_None.f
  rw [(fix_b h r).2, hf]
  simp only [Option.bind_some]
  rw [nb h, if_neg (by decide), if_neg (by omega), if_neg (by omega)]
theorem leq_n {y : El} (hy : okE y) (k : Nat) : congruence_Leq.f (k + 1) (-1) 0 (val y).1 (val y).2 = some true := by
  unfold congruence_Leq.f congruence_None.f
  rw [fix_n.2, fix_val hy]
  simp only [Option.bind_some]
  rw [if_pos (by decide)]
theorem leq_val {x y : El} (hx : okE x) (hy : okE y) (k : Nat) : congruence_Leq.f (k + 1) (val x).1 (val x).2 (val y).1 (val y).2 = some (leE x y) := by
  rcases x with _ | ⟨b, r⟩
  · exact leq_n hy k
  rcases hx with h | rfl
  · rw [val_b h]
    rcases y with _ | ⟨c, s⟩
    · exact leq_bx h r fix_n.2 (by decide) k
    · rcases hy with h' | rfl
      · rw [val_b h']
        refine (leq_b h h' r s k).trans ?_
        congr 1
        simp only [leE]
        rw [Bool.eq_iff_iff, decide_eq_true_eq, decide_eq_true_eq]
        have e := (bd_b h r).2.2; have e' := (bd_b h' s).2.2
        exact ⟨fun z => ⟨z.1, dvd_tri (dvd_tri (dvd_sub_comm.1 (dvd_mono z.1 e)) z.2) e'⟩, fun z => ⟨z.1, dvd_tri (dvd_tri (dvd_mono z.1 e) z.2) (dvd_sub_comm.1 e')⟩⟩
      · rw [val_32]
        refine (leq_bx h r (fix_32 (isW_w s)).2 (by decide) k).trans ?_
        congr 1
        simp only [leE]
        exact (decide_eq_false (fun z => by omega)).symm
  · rw [val_32]
    refine (leq_w hy (isW_w r) k).trans ?_
    congr 1
    rw [Bool.eq_iff_iff]
    have e : (2 : Int) ^ 32 ∣ wrap32 r - r := w32_dvd r
    rcases y with _ | ⟨c, s⟩
    · simp [hasE, leE]
    · simp only [hasE, leE, decide_eq_true_eq]
      have hc := Bt.le hy
      exact ⟨fun z => ⟨hc, dvd_tri (dvd_sub_comm.1 (dvd_mono hc e)) z.2⟩, fun z => ⟨isW_w r, dvd_tri (dvd_mono hc e) z.2⟩⟩
theorem mod_val (n : Int) {k : Int} (hk : 0 ≤ k) : congruence_modulo.f n k = some (low (min k.toNat 30) n) := by
  have e : mn k 30 = ((min k.toNat 30 : Nat) : Int) := by unfold mn; split <;> omega
  have p := pow_30 (show min k.toNat 30 ≤ 30 by omega)
  unfold congruence_modulo.f
  rw [e, if_pos (by omega), Int.toNat_natCast, w64_small (n := 2 ^ (min k.toNat 30)) (by omega) (by omega), andm (by omega), low_b (by omega)]
theorem width_val {b : Nat} (hb : Bt b) (r : Int) : congruence_width.f (low b r).1 (low b r).2 = some (b : Int) := by
  rcases hb with h | rfl
  · have p := pow_30 h
    rw [low_b h]
    show congruence_width.f (2 ^ b) (r % 2 ^ b) = _
    unfold congruence_width.f congruence_zeros.f
    rw [if_neg (by omega)]
    simp only [Option.bind_some]
    rw [zeros_pow (by omega)]
  · rfl
theorem bits_bd {b c : Nat} (hb : Bt b) (hc : Bt c) (h : ¬ (b = 32 ∧ c = 32)) : min b c ≤ 30 := by rcases hb with h1 | h1 <;> rcases hc with h2 | h2 <;> omega
theorem mn_nat (b c : Nat) : mn (b : Int) (c : Int) = ((min b c : Nat) : Int) := by unfold mn; split <;> omega
/-- How many bits Join keeps. -/
theorem join_bits {b c : Nat} (hb : Bt b) (hc : Bt c) (r s : Int) :
    congruence_modulo.f (low b r).2 (mn (mn (zerosI (wrap64 ((low b r).2 - (low c s).2))) (zerosI (low b r).1)) (zerosI (low c s).1)) = some (low (shr2 r s (min (min b c) 30)) r) := by
  have wr := low_w hb r; have ws := low_w hc s
  rw [w64_small (by omega) (by omega)]
  have zb : ∀ {b : Nat} (hb : Bt b) (r : Int), (b ≤ 30 → zerosI (low b r).1 = b) ∧ (b = 32 → zerosI (low b r).1 = 64) := by
    intro b hb r
    exact ⟨fun h => by rw [low_b h]; exact zeros_pow (by omega), fun h => by subst h; exact zeros_0⟩
  have z1 := zb hb r; have z2 := zb hc s
  have zd0 := zeros_bd ((low b r).2 - (low c s).2)
  have e1 : (2 : Int) ^ b ∣ (low b r).2 - r := low_r hb r
  have e2 : (2 : Int) ^ c ∣ (low c s).2 - s := low_r hc s
  generalize hD : (low b r).2 - (low c s).2 = D at *
  have zd : ∀ j : Nat, j ≤ 64 → ((j : Int) ≤ zerosI D ↔ (2 : Int) ^ j ∣ D) := fun j hj => zeros_dvd D hj
  generalize zerosI D = d at *
  generalize zerosI (low b r).1 = u at *
  generalize zerosI (low c s).1 = v at *
  have hu : (u : Int) = b ∧ b ≤ 30 ∨ u = 64 ∧ b = 32 := by
    rcases hb with h | h
    · exact Or.inl ⟨z1.1 h, h⟩
    · exact Or.inr ⟨z1.2 h, h⟩
  have hv : (v : Int) = c ∧ c ≤ 30 ∨ v = 64 ∧ c = 32 := by
    rcases hc with h | h
    · exact Or.inl ⟨z2.1 h, h⟩
    · exact Or.inr ⟨z2.2 h, h⟩
  have hm : ∃ m : Nat, mn (mn d u) v = (m : Int) ∧ min m 30 ≤ min (min b c) 30 ∧ ((min m 30 : Nat) : Int) ≤ d ∧ ∀ j : Nat, j ≤ min (min b c) 30 → (j : Int) ≤ d → j ≤ min m 30 := by
    refine ⟨(mn (mn d u) v).toNat, ?_, ?_, ?_, ?_⟩
    · unfold mn; split <;> split <;> omega
    · unfold mn; split <;> split <;> omega
    · unfold mn; split <;> split <;> omega
    · intro j; unfold mn; split <;> split <;> omega
  obtain ⟨m, hm, m1, m2, m3⟩ := hm
  rw [hm, mod_val _ (by omega), Int.toNat_natCast]
  have k1 : (2 : Int) ^ (min m 30) ∣ D := (zd _ (by omega)).1 m2
  have conv : ∀ j : Nat, j ≤ min b c → ((2 : Int) ^ j ∣ D ↔ (2 : Int) ^ j ∣ r - s) := by
    intro j hj
    rw [← hD]
    have f1 := dvd_mono (show j ≤ b by omega) e1
    have f2 := dvd_mono (show j ≤ c by omega) e2
    exact ⟨fun z => dvd_tri (dvd_tri (dvd_sub_comm.1 f1) z) f2, fun z => dvd_tri (dvd_tri f1 z) (dvd_sub_comm.1 f2)⟩
  have es : shr2 r s (min (min b c) 30) = min m 30 := by
    refine shr2_is m1 ((conv _ (by omega)).1 k1) (fun j hj hd => m3 j hj ((zd j (by omega)).2 ((conv j (by omega)).2 hd)))
  rw [es]
  congr 1
  exact (low_eq (Or.inl (by omega)) _ _).2 (dvd_mono (by omega) e1)
theorem join_n {y : El} (hy : okE y) (k : Nat) : congruence_Join.f (k + 1) (-1) 0 (val y).1 (val y).2 = some (val y) := by
  unfold congruence_Join.f congruence_None.f
  rw [fix_n.2, fix_val hy]
  simp only [Option.bind_some]
  rw [if_pos (by decide)]
  simp only [congruence_Join.j0]
  rw [if_pos trivial]
theorem join_s {X : Int × Int} (hX : congruence_Fix.f X.1 X.2 = some X) (hn : X ≠ (-1, 0)) {Y : Int × Int} (hY : congruence_Fix.f Y.1 Y.2 = some Y) (k : Nat) : congruence_Join.f (k + 1) X.1 X.2 Y.1 Y.2 =
    if X = Y then some Y else if Y = (-1, 0) then some X else congruence_modulo.f X.2 (mn (mn (zerosI (wrap64 (X.2 - Y.2))) (zerosI X.1)) (zerosI Y.1)) := by
  unfold congruence_Join.f congruence_None.f
  rw [hX, hY]
  simp only [Option.bind_some]
  rw [if_neg (by rw [beq_pair]; exact hn)]
  simp only [congruence_Join.j0, congruence_None.f, Option.bind_some]
  by_cases e : X = Y
  · rw [if_pos e, if_pos (by rw [beq_pair]; exact e)]
  · rw [if_neg e, if_neg (by rw [beq_pair]; exact e)]
    by_cases e' : Y = (-1, 0)
    · rw [if_pos e', if_pos (by rw [beq_pair]; exact e')]
    · rw [if_neg e', if_neg (by rw [beq_pair]; exact e')]
      unfold congruence_zeros.f
      simp only [Option.bind_some]
      cases congruence_modulo.f X.2 (mn (mn (zerosI (wrap64 (X.2 - Y.2))) (zerosI X.1)) (zerosI Y.1)) <;> rfl
theorem join_val {x y : El} (hx : okE x) (hy : okE y) (k : Nat) : congruence_Join.f (k + 1) (val x).1 (val x).2 (val y).1 (val y).2 = some (val (joinE x y)) := by
  rcases x with _ | ⟨b, r⟩
  · exact join_n hy k
  rw [join_s (fix_val hx) (low_non hx r) (fix_val hy)]
  rcases y with _ | ⟨c, s⟩
  · rw [if_neg (show ¬ val (some (b, r)) = val none from low_non hx r), if_pos (show val none = (-1, 0) from rfl)]; rfl
  · rw [joinE_some]
    have hb := hx; have hc := hy
    simp only [okE] at hb hc
    by_cases e : low b r = low c s
    · rw [if_pos (show val (some (b, r)) = val (some (c, s)) from e)]
      by_cases hbc : b = c
      · subst hbc
        rw [if_pos ⟨rfl, (low_eq hb r s).1 e⟩]
        exact congrArg some e.symm
      · exact absurd e (low_ne hb hc hbc r s)
    · rw [if_neg (show ¬ val (some (b, r)) = val (some (c, s)) from e), if_neg (show ¬ val (some (c, s)) = (-1, 0) from low_non hy s), if_neg (fun z => e (by obtain ⟨rfl, z⟩ := z; exact (low_eq hb r s).2 z))]
      exact join_bits hb hc r s
end Go.Proofs.YtaphfmbloappkaaDoorG
