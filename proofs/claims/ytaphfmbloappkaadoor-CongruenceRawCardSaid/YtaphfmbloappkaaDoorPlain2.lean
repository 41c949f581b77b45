/-
  The order, Join, Meet and the operators on residues of words, in plain Lean, with what the laws need of them. No program in sight; no condition.
-/
import Derived.Test.YtaphfmbloappkaaDoorPlain
namespace Go.Proofs.YtaphfmbloappkaaDoor
open Go.RowKit

theorem dvd_sub_comm {m a b : Int} : m ∣ a - b ↔ m ∣ b - a := by
  constructor <;> intro h <;> · have := Int.dvd_neg.2 h; rwa [Int.neg_sub] at this
theorem dvd_tri {m a b c : Int} (h : m ∣ a - b) (h' : m ∣ b - c) : m ∣ a - c := by
  have := Int.dvd_add h h'; rwa [show a - b + (b - c) = a - c by omega] at this
theorem dvd_mono {a b : Nat} (h : a ≤ b) {x : Int} (hx : (2 : Int) ^ b ∣ x) : (2 : Int) ^ a ∣ x := Int.dvd_trans (pow_dvd h) hx
theorem Bt.le {b : Nat} (h : Bt b) : b ≤ 32 := by rcases h with h | h <;> omega
/-- Two elements are one residue. -/
theorem val_eq {x y : El} (hx : okE x) (hy : okE y) : val x = val y ↔ leE x y = true ∧ leE y x = true := by
  rcases x with _ | ⟨b, r⟩ <;> rcases y with _ | ⟨c, s⟩
  · simp [leE]
  · simp only [leE, val]; exact ⟨fun h => absurd h.symm (low_non hy s), fun h => by simp at h⟩
  · simp only [leE, val]; exact ⟨fun h => absurd h (low_non hx r), fun h => by simp at h⟩
  · simp only [leE, val, decide_eq_true_eq]
    by_cases h : b = c
    · subst h
      rw [low_eq hx]
      exact ⟨fun h => ⟨⟨Nat.le_refl _, h⟩, Nat.le_refl _, dvd_sub_comm.1 h⟩, fun h => h.1.2⟩
    · exact ⟨fun e => absurd e (low_ne hx hy h r s), fun e => by omega⟩
theorem le_refl (x : El) : leE x x = true := by
  rcases x with _ | ⟨b, r⟩
  · rfl
  · simp only [leE, decide_eq_true_eq]; exact ⟨Nat.le_refl _, by rw [Int.sub_self]; exact Int.dvd_zero _⟩
theorem le_trans {x y z : El} (h : leE x y = true) (h' : leE y z = true) : leE x z = true := by
  rcases x with _ | ⟨b, r⟩
  · rfl
  rcases y with _ | ⟨c, s⟩
  · simp [leE] at h
  rcases z with _ | ⟨d, t⟩
  · simp [leE] at h'
  simp only [leE, decide_eq_true_eq] at *
  exact ⟨by omega, dvd_tri (dvd_mono h'.1 h.2) h'.2⟩

/-! ### Join -/
/-- How many low bits two numbers share, at most k. -/
def shr2 (r s : Int) : Nat → Nat
  | 0 => 0
  | k + 1 => if (2 : Int) ^ (k + 1) ∣ r - s then k + 1 else shr2 r s k
theorem shr2_le (r s : Int) : ∀ k, shr2 r s k ≤ k
  | 0 => Nat.le_refl _
  | k + 1 => by unfold shr2; split; exact Nat.le_refl _; exact Nat.le_succ_of_le (shr2_le r s k)
theorem shr2_dvd (r s : Int) : ∀ k, (2 : Int) ^ shr2 r s k ∣ r - s
  | 0 => by show (2 : Int) ^ 0 ∣ _; exact Int.one_dvd _
  | k + 1 => by unfold shr2; split; assumption; exact shr2_dvd r s k
theorem shr2_max {r s : Int} {j : Nat} (h : (2 : Int) ^ j ∣ r - s) : ∀ k, j ≤ k → j ≤ shr2 r s k
  | 0, hj => hj
  | k + 1, hj => by
    unfold shr2
    by_cases e : j = k + 1
    · subst e; rw [if_pos h]; exact Nat.le_refl _
    · split
      · exact hj
      · exact shr2_max h k (by omega)
/-- The greatest number of shared bits, told otherwise. -/
theorem shr2_is {r s : Int} {k v : Nat} (hv : v ≤ k) (h1 : (2 : Int) ^ v ∣ r - s) (h2 : ∀ j, j ≤ k → (2 : Int) ^ j ∣ r - s → j ≤ v) : shr2 r s k = v := by
  have a := shr2_max h1 k hv
  have b := h2 _ (shr2_le r s k) (shr2_dvd r s k)
  omega
theorem shr2_comm (r s : Int) : ∀ k, shr2 r s k = shr2 s r k
  | 0 => rfl
  | k + 1 => by
    unfold shr2
    rw [shr2_comm r s k]
    by_cases h : (2 : Int) ^ (k + 1) ∣ r - s
    · rw [if_pos h, if_pos (dvd_sub_comm.1 h)]
    · rw [if_neg h, if_neg (fun h' => h (dvd_sub_comm.1 h'))]
def joinE : El → El → El
  | none, y => y
  | x, none => x
  | some (b, r), some (c, s) => if b = c ∧ (2 : Int) ^ b ∣ r - s then some (b, r) else some (shr2 r s (min (min b c) 30), r)
theorem joinE_some (b c : Nat) (r s : Int) : joinE (some (b, r)) (some (c, s)) = if b = c ∧ (2 : Int) ^ b ∣ r - s then some (b, r) else some (shr2 r s (min (min b c) 30), r) := rfl
theorem join_ok {x y : El} (hx : okE x) (hy : okE y) : okE (joinE x y) := by
  rcases x with _ | ⟨b, r⟩
  · exact hy
  rcases y with _ | ⟨c, s⟩
  · exact hx
  rw [joinE_some]
  split
  · exact hx
  · have := shr2_le r s (min (min b c) 30)
    exact Or.inl (by omega)
theorem join_l (x y : El) : leE x (joinE x y) = true := by
  rcases x with _ | ⟨b, r⟩
  · rfl
  rcases y with _ | ⟨c, s⟩
  · exact le_refl _
  rw [joinE_some]
  split
  · exact le_refl _
  · have := shr2_le r s (min (min b c) 30)
    simp only [leE, decide_eq_true_eq]
    exact ⟨by omega, by rw [Int.sub_self]; exact Int.dvd_zero _⟩
theorem join_r (x y : El) : leE y (joinE x y) = true := by
  rcases x with _ | ⟨b, r⟩
  · exact le_refl _
  rcases y with _ | ⟨c, s⟩
  · rfl
  rw [joinE_some]
  split
  · rename_i h
    simp only [leE, decide_eq_true_eq]
    exact ⟨by omega, dvd_sub_comm.1 h.2⟩
  · have := shr2_le r s (min (min b c) 30)
    simp only [leE, decide_eq_true_eq]
    exact ⟨by omega, dvd_sub_comm.1 (shr2_dvd _ _ _)⟩
theorem join_least {x y z : El} (hx : okE x) (hy : okE y) (hz : okE z) (h : leE x z = true) (h' : leE y z = true) : leE (joinE x y) z = true := by
  rcases x with _ | ⟨b, r⟩
  · exact h'
  rcases y with _ | ⟨c, s⟩
  · exact h
  rcases z with _ | ⟨d, t⟩
  · simp [leE] at h
  rw [joinE_some]
  split
  · exact h
  · rename_i hn
    simp only [leE, decide_eq_true_eq] at *
    have hd : (2 : Int) ^ d ∣ r - s := dvd_tri h.2 (dvd_sub_comm.1 h'.2)
    refine ⟨shr2_max hd _ ?_, h.2⟩
    have hb := hx; have hc := hy
    simp only [okE, Bt] at hx hy hz
    rcases hz with hz | hz
    · omega
    · subst hz
      exact absurd ⟨by omega, dvd_mono (Bt.le hb) hd⟩ hn
theorem join_comm {x y : El} (hx : okE x) (hy : okE y) : val (joinE x y) = val (joinE y x) := by
  have a := join_least hy hx (join_ok hx hy) (join_r x y) (join_l x y)
  have b := join_least hx hy (join_ok hy hx) (join_r y x) (join_l y x)
  exact (val_eq (join_ok hx hy) (join_ok hy hx)).2 ⟨b, a⟩

/-! ### Meet -/
def meetE (x y : El) : El := if leE x y = true then x else if leE y x = true then y else none
theorem meet_ok {x y : El} (hx : okE x) (hy : okE y) : okE (meetE x y) := by
  unfold meetE; split; exact hx; split; exact hy; trivial
theorem meet_l (x y : El) : leE (meetE x y) x = true := by
  unfold meetE; split
  · exact le_refl _
  · split
    · assumption
    · rfl
theorem meet_r (x y : El) : leE (meetE x y) y = true := by
  unfold meetE; split
  · assumption
  · split
    · exact le_refl _
    · rfl
theorem has_le {x y : El} {n : Int} (h : leE x y = true) (hn : hasE x n = true) : hasE y n = true := by
  rcases x with _ | ⟨b, r⟩
  · simp [hasE] at hn
  rcases y with _ | ⟨c, s⟩
  · simp [leE] at h
  simp only [leE, hasE, decide_eq_true_eq] at *
  exact ⟨hn.1, dvd_tri (dvd_mono h.1 hn.2) h.2⟩
theorem has_meet (x y : El) (n : Int) : (hasE x n && hasE y n) = hasE (meetE x y) n := by
  rw [Bool.eq_iff_iff, Bool.and_eq_true]
  constructor
  · rintro ⟨h1, h2⟩
    unfold meetE
    split
    · exact h1
    · split
      · exact h2
      · rename_i a b
        exfalso
        rcases x with _ | ⟨b', r⟩
        · simp [hasE] at h1
        rcases y with _ | ⟨c, s⟩
        · simp [hasE] at h2
        simp only [leE, hasE, decide_eq_true_eq] at *
        rcases Nat.le_total c b' with hc | hc
        · exact a ⟨hc, dvd_tri (dvd_sub_comm.1 (dvd_mono hc h1.2)) h2.2⟩
        · exact b ⟨hc, dvd_tri (dvd_sub_comm.1 (dvd_mono hc h2.2)) h1.2⟩
  · intro h
    exact ⟨has_le (meet_l x y) h, has_le (meet_r x y) h⟩
end Go.Proofs.YtaphfmbloappkaaDoor
