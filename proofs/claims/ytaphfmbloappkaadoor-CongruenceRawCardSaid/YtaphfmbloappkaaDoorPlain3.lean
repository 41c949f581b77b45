/-
  The operators on residues of words, in plain Lean: what each gives, and that fewer words give fewer words. No program in sight; no condition.
-/
import Derived.Test.YtaphfmbloappkaaDoorPlain2
namespace Go.Proofs.YtaphfmbloappkaaDoor
open Go.RowKit

/-- The second part, as the residue holds it. -/
def rep (b : Nat) (r : Int) : Int := (low b r).2
def arith (op : Int) : Bool := decide (op = 1 ∨ op = 2 ∨ op = 3 ∨ op = 6 ∨ op = 7 ∨ op = 8)
def doE (op : Int) : El → El → El
  | none, _ => none
  | some _, none => none
  | some (b, r), some (c, s) =>
    if ¬ (1 ≤ op ∧ op ≤ 14) then some (0, 0)
    else if b = 32 ∧ c = 32 then some (32, wdo op r s)
    else if arith op = true then some (min b c, wdo op (rep b r) (rep c s))
    else if op = 9 ∧ c = 32 then some (min (b + (s % 32).toNat) 30, rep b r * 2 ^ (s % 32).toNat)
    else if (op = 13 ∨ op = 14) ∧ ¬ (2 : Int) ^ (min b c) ∣ rep b r - rep c s then some (32, op - 13)
    else some (0, 0)
theorem doE_some (op : Int) (b c : Nat) (r s : Int) : doE op (some (b, r)) (some (c, s)) =
    if ¬ (1 ≤ op ∧ op ≤ 14) then some (0, 0)
    else if b = 32 ∧ c = 32 then some (32, wdo op r s)
    else if arith op = true then some (min b c, wdo op (rep b r) (rep c s))
    else if op = 9 ∧ c = 32 then some (min (b + (s % 32).toNat) 30, rep b r * 2 ^ (s % 32).toNat)
    else if (op = 13 ∨ op = 14) ∧ ¬ (2 : Int) ^ (min b c) ∣ rep b r - rep c s then some (32, op - 13)
    else some (0, 0) := rfl
theorem do_ok {x y : El} (op : Int) (hx : okE x) (hy : okE y) : okE (doE op x y) := by
  rcases x with _ | ⟨b, r⟩
  · trivial
  rcases y with _ | ⟨c, s⟩
  · trivial
  rw [doE_some]
  simp only [okE, Bt] at hx hy
  split
  · exact Or.inl (by omega)
  split
  · exact Or.inr rfl
  split
  · exact Or.inl (by omega)
  split
  · exact Or.inl (by omega)
  split
  · exact Or.inr rfl
  · exact Or.inl (by omega)

/-! ### Words whose low bits are equal -/
theorem rep_dvd {b : Nat} (hb : Bt b) (r : Int) : (2 : Int) ^ b ∣ rep b r - r := low_r hb r
theorem ofInt_low {k : Nat} (hk : k ≤ 32) {a b : Int} (h : (2 : Int) ^ k ∣ a - b) : (BitVec.ofInt 32 a).setWidth k = (BitVec.ofInt 32 b).setWidth k := by
  apply BitVec.eq_of_toInt_eq
  have e : ∀ x : Int, ((BitVec.ofInt 32 x).setWidth k) = BitVec.ofInt k x := by
    intro x
    apply BitVec.eq_of_toNat_eq
    rw [BitVec.toNat_setWidth, BitVec.toNat_ofInt, BitVec.toNat_ofInt]
    have h1 : ((2 ^ 32 : Nat) : Int) = 2 ^ 32 := by decide
    have h2 : ((2 ^ k : Nat) : Int) = 2 ^ k := by simp
    rw [h1, h2]
    have h3 := Int.emod_emod_of_dvd x (pow_dvd hk)
    have p := pow_pos' k
    have n1 := Int.emod_nonneg x (show (2 : Int) ^ 32 ≠ 0 by decide)
    have n2 := Int.emod_nonneg x (show (2 : Int) ^ k ≠ 0 by omega)
    have h4 : (((x % 2 ^ 32).toNat % 2 ^ k : Nat) : Int) = ((x % 2 ^ k).toNat : Int) := by
      rw [Int.natCast_emod, h2, Int.toNat_of_nonneg n1, Int.toNat_of_nonneg n2, h3]
    omega
  rw [e, e]
  have : (BitVec.ofInt k a) = BitVec.ofInt k b := by
    apply BitVec.eq_of_toNat_eq
    rw [BitVec.toNat_ofInt, BitVec.toNat_ofInt]
    have h2 : ((2 ^ k : Nat) : Int) = 2 ^ k := by simp
    rw [h2, (emod_iff k a b).2 h]
  rw [this]
theorem toInt_low {k : Nat} (hk : k ≤ 32) {X Y : BitVec 32} (h : X.setWidth k = Y.setWidth k) : (2 : Int) ^ k ∣ X.toInt - Y.toInt := by
  have hn := congrArg BitVec.toNat h
  rw [BitVec.toNat_setWidth, BitVec.toNat_setWidth] at hn
  have a : (2 : Int) ^ k ∣ (X.toNat : Int) - (Y.toNat : Int) := by
    rw [← emod_iff]
    have h2 : ((2 ^ k : Nat) : Int) = 2 ^ k := by simp
    rw [← h2, ← Int.natCast_emod, ← Int.natCast_emod, hn]
  have b : ∀ Z : BitVec 32, (2 : Int) ^ 32 ∣ Z.toInt - (Z.toNat : Int) := by
    intro Z
    rw [BitVec.toInt_eq_toNat_cond]
    have h1 : ((2 ^ 32 : Nat) : Int) = 2 ^ 32 := by decide
    split
    · rw [Int.sub_self]; exact Int.dvd_zero _
    · rw [h1]; exact ⟨-1, by omega⟩
  have bx := dvd_mono hk (b X)
  have bY := dvd_mono hk (b Y)
  exact dvd_tri bx (dvd_tri a (dvd_sub_comm.1 bY))
theorem w32_dvd (a : Int) : (2 : Int) ^ 32 ∣ wrap32 a - a := low_r (Or.inr rfl) a
theorem wdo2_dvd (u v : Int) : (2 : Int) ^ 32 ∣ wdo 2 u v - (u - v) := by
  have : wdo 2 u v = wrap32 (wrap32 u - wrap32 v) := rfl
  rw [this]
  have a := w32_dvd (wrap32 u - wrap32 v); have b' := w32_dvd u; have c' := w32_dvd v
  have e : (2 : Int) ^ 32 = 4294967296 := by decide
  rw [e] at *; omega
theorem sub_cong {k : Nat} (hk : k ≤ 32) {a a' b b' : Int} (ha : (2 : Int) ^ k ∣ a - a') (hb : (2 : Int) ^ k ∣ b - b') : (2 : Int) ^ k ∣ wdo 2 a b - wdo 2 a' b' := by
  have h1 := dvd_mono hk (wdo2_dvd a b)
  have h2 := dvd_mono hk (wdo2_dvd a' b')
  have h3 : (2 : Int) ^ k ∣ (a - b) - (a' - b') := by
    have := Int.dvd_sub ha hb
    rwa [show a - a' - (b - b') = a - b - (a' - b') by omega] at this
  exact dvd_tri h1 (dvd_tri h3 (dvd_sub_comm.1 h2))
theorem wdo_cong {op : Int} {k : Nat} (hk : k ≤ 32) (ho : arith op = true) {a a' b b' : Int} (ha : (2 : Int) ^ k ∣ a - a') (hb : (2 : Int) ^ k ∣ b - b') : (2 : Int) ^ k ∣ wdo op a b - wdo op a' b' := by
  have ea := ofInt_low hk ha
  have eb := ofInt_low hk hb
  simp only [arith, decide_eq_true_eq] at ho
  rcases ho with rfl | rfl | rfl | rfl | rfl | rfl
  · rw [wdo1, wdo1]; apply toInt_low hk
    rw [BitVec.setWidth_add _ _ hk, BitVec.setWidth_add _ _ hk, ea, eb]
  · exact sub_cong hk ha hb
  · rw [wdo3, wdo3]; apply toInt_low hk
    rw [BitVec.setWidth_mul _ _ hk, BitVec.setWidth_mul _ _ hk, ea, eb]
  · rw [wdo6, wdo6]; apply toInt_low hk
    rw [BitVec.setWidth_and, BitVec.setWidth_and, ea, eb]
  · rw [wdo7, wdo7]; apply toInt_low hk
    rw [BitVec.setWidth_or, BitVec.setWidth_or, ea, eb]
  · rw [wdo8, wdo8]; apply toInt_low hk
    rw [BitVec.setWidth_xor, BitVec.setWidth_xor, ea, eb]
theorem wdo_arg (op a b : Int) : wdo op (wrap32 a) (wrap32 b) = wdo op a b := by unfold wdo; rw [w32_w32, w32_w32]
theorem rep_32 (r : Int) : rep 32 r = wrap32 r := rfl
theorem wdo9 (a b : Int) : wdo 9 a b = wrap32 (wrap32 a * 2 ^ (wrap32 b % 32).toNat) := rfl
theorem w32_mod32 (b : Int) : wrap32 b % 32 = b % 32 := by unfold wrap32; omega
theorem shl_cong {b : Nat} (hb : b ≤ 32) {i r : Int} (s : Int) (h : (2 : Int) ^ b ∣ i - r) : (2 : Int) ^ (min (b + (s % 32).toNat) 30) ∣ wdo 9 i s - r * 2 ^ (s % 32).toNat := by
  rw [wdo9, w32_mod32]
  generalize (s % 32).toNat = c
  have h1 : (2 : Int) ^ (min (b + c) 30) ∣ wrap32 (wrap32 i * 2 ^ c) - wrap32 i * 2 ^ c := dvd_mono (by omega) (w32_dvd _)
  have h2 : (2 : Int) ^ (b + c) ∣ wrap32 i * 2 ^ c - r * 2 ^ c := by
    rw [← Int.sub_mul, Int.pow_add]
    have h3 : (2 : Int) ^ b ∣ wrap32 i - r := dvd_tri (dvd_mono hb (w32_dvd i)) h
    exact Int.mul_dvd_mul h3 (Int.dvd_refl _)
  exact dvd_tri h1 (dvd_mono (by omega) h2)
theorem wdo13 (a b : Int) : wdo 13 a b = if wrap32 a = wrap32 b then 1 else 0 := by
  show wrap32 (if wrap32 a = wrap32 b then 1 else 0) = _
  split <;> (unfold wrap32; decide)
theorem wdo14 (a b : Int) : wdo 14 a b = if wrap32 a = wrap32 b then 0 else 1 := by
  show wrap32 (if _ then _ else _) = _
  by_cases h : wrap32 a = wrap32 b
  · rw [if_pos h]; simp [h]; unfold wrap32; decide
  · rw [if_neg h]; simp [h]; unfold wrap32; decide
/-- Words that differ in low bits differ. -/
theorem apart {k : Nat} (hk : k ≤ 32) {op a b : Int} (ho : op = 13 ∨ op = 14) (h : ¬ (2 : Int) ^ k ∣ a - b) : wdo op a b = op - 13 := by
  have hn : wrap32 a ≠ wrap32 b := fun e => h (dvd_mono hk ((w32_iff a b).1 e))
  rcases ho with rfl | rfl
  · rw [wdo13, if_neg hn]; decide
  · rw [wdo14, if_neg hn]; decide
theorem le_top (x : El) (t : Int) : leE x (some (0, t)) = true := by
  rcases x with _ | ⟨b, r⟩
  · rfl
  · simp only [leE, decide_eq_true_eq]; exact ⟨Nat.zero_le _, Int.one_dvd _⟩
theorem le_mk {b c : Nat} {r s : Int} (h : c ≤ b) (h' : (2 : Int) ^ c ∣ r - s) : leE (some (b, r)) (some (c, s)) = true := by
  simp only [leE, decide_eq_true_eq]; exact ⟨h, h'⟩
/-- A word in place of a residue in which it lies: the first argument. -/
theorem do_mono1 {x y : El} (op i : Int) (hx : okE x) (hy : okE y) (h : leE (some (32, i)) x = true) : leE (doE op (some (32, i)) y) (doE op x y) = true := by
  rcases x with _ | ⟨b, r⟩
  · simp [leE] at h
  rcases y with _ | ⟨c, s⟩
  · exact le_refl _
  simp only [okE] at hx hy
  simp only [leE, decide_eq_true_eq] at h
  have hr : (2 : Int) ^ b ∣ i - rep b r := dvd_tri h.2 (dvd_sub_comm.1 (rep_dvd hx r))
  have hi : (2 : Int) ^ 32 ∣ rep 32 i - i := rep_dvd (Or.inr rfl) i
  rw [doE_some, doE_some]
  by_cases o : ¬ (1 ≤ op ∧ op ≤ 14)
  · rw [if_pos o, if_pos o]; exact le_refl _
  rw [if_neg o, if_neg o]
  by_cases c32 : c = 32
  · subst c32
    rw [if_pos ⟨rfl, rfl⟩]
    by_cases b32 : b = 32
    · subst b32
      rw [if_pos ⟨rfl, rfl⟩]
      have : wdo op i s = wdo op r s := by
        have e := (w32_iff i r).2 h.2
        rw [← wdo_arg, e, wdo_arg]
      rw [this]; exact le_refl _
    · rw [if_neg (fun z => b32 z.1)]
      have hb : b ≤ 30 := hx.resolve_right b32
      by_cases ar : arith op = true
      · rw [if_pos ar]
        refine le_mk (by omega) (wdo_cong (by omega) ar (dvd_mono (by omega) hr) ?_)
        exact dvd_mono (by omega) (dvd_sub_comm.1 (rep_dvd (Or.inr rfl) s))
      · rw [if_neg ar]
        by_cases o9 : op = 9 ∧ 32 = 32
        · rw [if_pos o9, o9.1]
          exact le_mk (by omega) (shl_cong (by omega) s hr)
        · rw [if_neg o9]
          by_cases oe : (op = 13 ∨ op = 14) ∧ ¬ (2 : Int) ^ (min b 32) ∣ rep b r - rep 32 s
          · rw [if_pos oe]
            have : wdo op i s = op - 13 := by
              refine apart (k := min b 32) (by omega) oe.1 (fun z => oe.2 ?_)
              have z1 : (2 : Int) ^ (min b 32) ∣ rep b r - i := dvd_mono (by omega) (dvd_sub_comm.1 hr)
              have z2 : (2 : Int) ^ (min b 32) ∣ s - rep 32 s := dvd_mono (by omega) (dvd_sub_comm.1 (rep_dvd (Or.inr rfl) s))
              exact dvd_tri z1 (dvd_tri z z2)
            rw [this]; exact le_refl _
          · rw [if_neg oe]; exact le_top _ _
  · have hc : c ≤ 30 := hy.resolve_right c32
    rw [if_neg (show ¬ (32 = 32 ∧ c = 32) from fun z => c32 z.2), if_neg (show ¬ (b = 32 ∧ c = 32) from fun z => c32 z.2)]
    by_cases ar : arith op = true
    · rw [if_pos ar, if_pos ar]
      refine le_mk (by omega) (wdo_cong (by omega) ar ?_ ?_)
      · exact dvd_tri (dvd_mono (by omega) hi) (dvd_mono (by omega) hr)
      · rw [Int.sub_self]; exact Int.dvd_zero _
    · rw [if_neg ar, if_neg ar, if_neg (show ¬ (op = 9 ∧ c = 32) from fun z => c32 z.2), if_neg (show ¬ (op = 9 ∧ c = 32) from fun z => c32 z.2)]
      by_cases oe : (op = 13 ∨ op = 14) ∧ ¬ (2 : Int) ^ (min b c) ∣ rep b r - rep c s
      · rw [if_pos oe, if_pos]
        · exact le_refl _
        · refine ⟨oe.1, fun z => oe.2 ?_⟩
          have z1 : (2 : Int) ^ (min b c) ∣ rep b r - i := dvd_mono (by omega) (dvd_sub_comm.1 hr)
          have z2 : (2 : Int) ^ (min b c) ∣ i - rep 32 i := dvd_mono (by omega) (dvd_sub_comm.1 hi)
          exact dvd_tri z1 (dvd_tri z2 (dvd_mono (by omega) z))
      · rw [if_neg oe]; exact le_top _ _
/-- The second argument. -/
theorem do_mono2 {x y : El} (op j : Int) (hx : okE x) (hy : okE y) (h : leE (some (32, j)) y = true) : leE (doE op x (some (32, j))) (doE op x y) = true := by
  rcases x with _ | ⟨b, r⟩
  · rfl
  rcases y with _ | ⟨c, s⟩
  · simp [leE] at h
  simp only [okE] at hx hy
  simp only [leE, decide_eq_true_eq] at h
  have hs : (2 : Int) ^ c ∣ j - rep c s := dvd_tri h.2 (dvd_sub_comm.1 (rep_dvd hy s))
  have hj : (2 : Int) ^ 32 ∣ rep 32 j - j := rep_dvd (Or.inr rfl) j
  rw [doE_some, doE_some]
  by_cases o : ¬ (1 ≤ op ∧ op ≤ 14)
  · rw [if_pos o, if_pos o]; exact le_refl _
  rw [if_neg o, if_neg o]
  by_cases c32 : c = 32
  · subst c32
    have ej : wrap32 j = wrap32 s := (w32_iff j s).2 h.2
    have e1 : wdo op r j = wdo op r s := by rw [← wdo_arg, ej, wdo_arg]
    have e2 : rep 32 j = rep 32 s := ej
    have e3 : j % 32 = s % 32 := by rw [← w32_mod32, ej, w32_mod32]
    rw [e1, e2, e3]; exact le_refl _
  · have hc : c ≤ 30 := hy.resolve_right c32
    rw [if_neg (show ¬ (b = 32 ∧ c = 32) from fun z => c32 z.2), if_neg (show ¬ (op = 9 ∧ c = 32) from fun z => c32 z.2)]
    by_cases b32 : b = 32
    · subst b32
      rw [if_pos ⟨rfl, rfl⟩]
      by_cases ar : arith op = true
      · rw [if_pos ar]
        refine le_mk (by omega) (wdo_cong (by omega) ar ?_ (dvd_mono (by omega) hs))
        exact dvd_mono (by omega) (dvd_sub_comm.1 (rep_dvd (Or.inr rfl) r))
      · rw [if_neg ar]
        by_cases oe : (op = 13 ∨ op = 14) ∧ ¬ (2 : Int) ^ (min 32 c) ∣ rep 32 r - rep c s
        · rw [if_pos oe]
          have : wdo op r j = op - 13 := by
            refine apart (k := min 32 c) (by omega) oe.1 (fun z => oe.2 ?_)
            have z1 : (2 : Int) ^ (min 32 c) ∣ rep 32 r - r := dvd_mono (by omega) (rep_dvd (Or.inr rfl) r)
            exact dvd_tri z1 (dvd_tri z (dvd_mono (by omega) hs))
          rw [this]; exact le_refl _
        · rw [if_neg oe]; exact le_top _ _
    · have hb : b ≤ 30 := hx.resolve_right b32
      rw [if_neg (show ¬ (b = 32 ∧ 32 = 32) from fun z => b32 z.1)]
      have hjs : (2 : Int) ^ (min b c) ∣ rep 32 j - rep c s := dvd_tri (dvd_mono (by omega) hj) (dvd_mono (by omega) hs)
      by_cases ar : arith op = true
      · rw [if_pos ar, if_pos ar]
        refine le_mk (by omega) (wdo_cong (by omega) ar ?_ hjs)
        rw [Int.sub_self]; exact Int.dvd_zero _
      · rw [if_neg ar, if_neg ar]
        by_cases o9 : op = 9 ∧ 32 = 32
        · rw [if_pos o9, if_neg (fun z => by have := z.1; omega)]; exact le_top _ _
        · rw [if_neg o9]
          by_cases oe : (op = 13 ∨ op = 14) ∧ ¬ (2 : Int) ^ (min b c) ∣ rep b r - rep c s
          · rw [if_pos oe, if_pos]
            · exact le_refl _
            · refine ⟨oe.1, fun z => oe.2 ?_⟩
              exact dvd_tri (dvd_mono (by omega) z) hjs
          · rw [if_neg oe]; exact le_top _ _
/-- The result of an operator for words of two residues is a word of the result. -/
theorem do_sound {x y : El} {op i j : Int} (o1 : 1 ≤ op) (o2 : op ≤ 14) (hx : okE x) (hy : okE y) (hi : leE (some (32, i)) x = true) (hj : leE (some (32, j)) y = true) : leE (some (32, wdo op i j)) (doE op x y) = true := by
  have a := do_mono1 op i hx (y := some (32, j)) (Or.inr rfl) hi
  have b := do_mono2 op j hx hy hj
  have c := le_trans a b
  rwa [doE_some, if_neg (by omega), if_pos ⟨rfl, rfl⟩] at c
theorem has_word {x : El} (hx : okE x) (n : Int) (h : leE (some (32, n)) x = true) (hw : isW n) : hasE x n = true := by
  rcases x with _ | ⟨b, r⟩
  · simp [leE] at h
  · simp only [leE, hasE, decide_eq_true_eq] at *; exact ⟨hw, h.2⟩
theorem word_has {x : El} (hx : okE x) (n : Int) (h : hasE x n = true) : leE (some (32, n)) x = true := by
  rcases x with _ | ⟨b, r⟩
  · simp [hasE] at h
  · simp only [leE, hasE, decide_eq_true_eq] at *; exact ⟨Bt.le hx, h.2⟩
/-- Adding and subtracting the same word leads back. -/
theorem add_sub {x : El} (c : Int) (hx : okE x) : val (doE 2 (doE 1 x (some (32, c))) (some (32, c))) = val x := by
  rcases x with _ | ⟨b, r⟩
  · rfl
  simp only [okE] at hx
  have key : ∀ u v : Int, (2 : Int) ^ b ∣ u - r → (2 : Int) ^ b ∣ v - wdo 1 u c → (2 : Int) ^ b ∣ wdo 2 v c - r := by
    intro u v hu hv
    have h1 : (2 : Int) ^ b ∣ wdo 1 u c - (u + c) := by
      have : wdo 1 u c = wrap32 (wrap32 u + wrap32 c) := rfl
      rw [this]
      refine dvd_mono (Bt.le hx) ?_
      have a := w32_dvd (wrap32 u + wrap32 c); have b' := w32_dvd u; have c' := w32_dvd c
      have e : (2 : Int) ^ 32 = 4294967296 := by decide
      rw [e] at *; omega
    have h2 : (2 : Int) ^ b ∣ wdo 2 v c - (v - c) := by
      have : wdo 2 v c = wrap32 (wrap32 v - wrap32 c) := rfl
      rw [this]
      refine dvd_mono (Bt.le hx) ?_
      have a := w32_dvd (wrap32 v - wrap32 c); have b' := w32_dvd v; have c' := w32_dvd c
      have e : (2 : Int) ^ 32 = 4294967296 := by decide
      rw [e] at *; omega
    have h3 := Int.dvd_add h2 (Int.dvd_add (dvd_tri hv h1) hu)
    rwa [show wdo 2 v c - (v - c) + (v - (u + c) + (u - r)) = wdo 2 v c - r by omega] at h3
  rw [doE_some, if_neg (by decide)]
  by_cases b32 : b = 32
  · subst b32
    rw [if_pos ⟨rfl, rfl⟩, doE_some, if_neg (by decide), if_pos ⟨rfl, rfl⟩]
    exact (low_eq hx _ _).2 (key r _ (by rw [Int.sub_self]; exact Int.dvd_zero _) (by rw [Int.sub_self]; exact Int.dvd_zero _))
  · have hb := hx.resolve_right b32
    rw [if_neg (fun z => b32 z.1), if_pos (by decide), doE_some, if_neg (by decide), if_neg (by omega), if_pos (by decide), show min (min b 32) 32 = b by omega, show min b 32 = b by omega]
    refine (low_eq hx _ _).2 ?_
    rw [rep_32]
    have e : ∀ a, wdo 2 a (wrap32 c) = wdo 2 a c := by intro a; unfold wdo; rw [w32_w32]
    have e1 : ∀ a, wdo 1 a (wrap32 c) = wdo 1 a c := by intro a; unfold wdo; rw [w32_w32]
    rw [e, e1]
    exact key (rep b r) _ (rep_dvd hx r) (rep_dvd hx _)
end Go.Proofs.YtaphfmbloappkaaDoor
