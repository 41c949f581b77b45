/-
  PROVED: Rows.WordDividesSaid: timeboundlaw01.WordDivides returns true for every input. No condition. (The frame of the row's step began as the kit's own shell, proof-skeleton.mjs.)
-/
import Derived.Test.YtgjgfoggcomhlaaRows
import Derived.Test.YtgjgfoggcomhlaaLaws
import Derived.Test.YtgjgfoggcomhlaaWalks2
import Derived.WalkKit
import Derived.ProofKit
import Derived.OpenShut
namespace Go.Proofs.Ytgjgfoggcomhlaa.wordDivides
open Go.ChangeShapes Go.WideShapes Go.ChangeAt Go.RowKit
set_option linter.unusedVariables false      -- a walk need not use every 'w<i>' (that an integer argument fits its kind)

theorem own : ownKnob Try.prog.godebug = none := by kernel_rfl

/-! ### STEP 1: THE WALK: the Go text returns true. 'Grown w w'': the world has at most new blocks (Derived/RowKit3.lean). Part the cases AHEAD of 'go_enter' where a test parts the walk; take each callee by a contract of your own. -/
set_option maxHeartbeats 4000000 in
theorem walk (a0 : Int) (a1 : Int) (a2 : Int) (w0 : (Lit.int .i32 a0).wf = true) (w1 : (Lit.int .i32 a1).wf = true) (w2 : (Lit.int .u8 a2).wf = true) (w : World) :
    Calls Try.prog 5 #[.int .i32 a0, .int .i32 a1, .int .u8 a2] w fun e w' => e = .returned (.bool true) ∧ Grown w w' := by
  have b0 := bd_i32 w0
  have b1 := bd_i32 w1
  have b2 := bd_u8 w2
  clear w0 w1 w2
  by_cases hc : a2 < 80
  · by_cases hz : a2 - 40 = 0
    · obtain rfl : a2 = 40 := by omega
      have d1 := dz4 a0
      have d2 := dz5 a0
      have hg : Grown w w := Grown.refl w
      go_enter Try.func5, Try.ntmps5
      go_wp2_with (first | (go_at_call 12; refine (ldo _ _ _ (by omega) (by omega) _).mono ?_; rintro e w' ⟨rfl, hg1⟩; replace hg := grown_trans hg hg1; clear hg1) | (go_at_call 11; refine (awake _).mono ?_; rintro e w' ⟨rfl, hg1⟩; replace hg := grown_trans hg hg1; clear hg1))
      go_ret
      exact ⟨rfl, hg⟩
    · have hy : (a2 - 40 == 0) = false := by simpa using hz
      have d1 := dv1 a0 (a2 - 40) b0.1 b0.2 (by omega) (by omega) hz
      have d2 := dv2 a0 (a2 - 40) b0.1 b0.2 (by omega) (by omega) hz
      have d3 := dv3 a0 (a2 - 40) b0.1 b0.2 (by omega) (by omega) hz
      have d4 := dv4 a0 (a2 % 31) b0.1 b0.2 (by omega) (by omega)
      have d5 := dv5 a0 (a2 % 31) b0.1 b0.2 (by omega) (by omega)
      have d6 := dv6 a0 (a2 % 31) (by omega) (by omega)
      have d7 := w64_pw (a2 % 31) (by omega)
      have d8 := wdo_bd 10 a0 (a2 % 31)
      have d9 := wdo_bd 5 a0 (a2 - 40)
      clear hz
      have hg : Grown w w := Grown.refl w
      go_enter Try.func5, Try.ntmps5
      go_wp2_with (first | (go_at_call 12; refine (ldo _ _ _ (by omega) (by omega) _).mono ?_; rintro e w' ⟨rfl, hg1⟩; replace hg := grown_trans hg hg1; clear hg1) | (go_at_call 11; refine (awake _).mono ?_; rintro e w' ⟨rfl, hg1⟩; replace hg := grown_trans hg hg1; clear hg1))
      go_ret
      exact ⟨rfl, hg⟩
  · by_cases hz : a1 = 0
    · subst hz
      have d1 := dz4 a0
      have d2 := dz5 a0
      have hg : Grown w w := Grown.refl w
      go_enter Try.func5, Try.ntmps5
      go_wp2_with (first | (go_at_call 12; refine (ldo _ _ _ (by omega) (by omega) _).mono ?_; rintro e w' ⟨rfl, hg1⟩; replace hg := grown_trans hg hg1; clear hg1) | (go_at_call 11; refine (awake _).mono ?_; rintro e w' ⟨rfl, hg1⟩; replace hg := grown_trans hg hg1; clear hg1))
      go_ret
      exact ⟨rfl, hg⟩
    · have hy : (a1 == 0) = false := by simpa using hz
      have d1 := dv1 a0 (a1) b0.1 b0.2 b1.1 b1.2 hz
      have d2 := dv2 a0 (a1) b0.1 b0.2 b1.1 b1.2 hz
      have d3 := dv3 a0 (a1) b0.1 b0.2 b1.1 b1.2 hz
      have d4 := dv4 a0 (a2 % 31) b0.1 b0.2 (by omega) (by omega)
      have d5 := dv5 a0 (a2 % 31) b0.1 b0.2 (by omega) (by omega)
      have d6 := dv6 a0 (a2 % 31) (by omega) (by omega)
      have d7 := w64_pw (a2 % 31) (by omega)
      have d8 := wdo_bd 10 a0 (a2 % 31)
      have d9 := wdo_bd 5 a0 (a1)
      clear hz
      have hg : Grown w w := Grown.refl w
      go_enter Try.func5, Try.ntmps5
      go_wp2_with (first | (go_at_call 12; refine (ldo _ _ _ (by omega) (by omega) _).mono ?_; rintro e w' ⟨rfl, hg1⟩; replace hg := grown_trans hg hg1; clear hg1) | (go_at_call 11; refine (awake _).mono ?_; rintro e w' ⟨rfl, hg1⟩; replace hg := grown_trans hg hg1; clear hg1))
      go_ret
      exact ⟨rfl, hg⟩

/-! ### THE ROW's STEP: WRITTEN OUT: LEAVE IT -/
set_option maxRecDepth 100000 in
theorem lifted (os : Os) (started : os.Started) (H : Type) (enc : TypeId × Value → H) :
    ReturnsInHanded {} Try.checked os 5 .any (Rows.wordDividesSpec.pre6 enc Try.prog Try.f5 Rows.wordDividesRow.domain false) (Rows.wordDividesSpec.post enc Try.prog Try.f5 false true false false) := by
  refine returnsInHanded_of_change (C := Try.checked) own started (by kernel_rfl) Try.func5
    (ChangeSpec.witness6 (enc := enc) (C := Try.checked) false ⟨#[], #[.int .i32 0, .int .i32 0, .int .u8 0], []⟩ 8 (by kernel_rfl) (by kernel_rfl) (by kernel_rfl) (by kernel_rfl)) ?_
  intro W base args ds gs before hval0 hW hcnd _
  have hval : ∀ (j : Nat) t v, Try.f5.params[j]? = some t → args[j]? = some v → Value.okWide Try.prog W .any base t v := hval0
  have hW' := hW
  obtain ⟨p, q, hA0, hV, rfl, hfz, hnd⟩ := hW
  have hA : DataW.TrodAll enc Try.prog W 0 (fun _ => true) true Try.f5.params.toList args.toList ds p := hA0
  rw [Try.params5] at hA hval
  obtain ⟨v0, vs0, d0, ds0, p0, q0, hargs, rfl, rfl, h0, r0⟩ := trodAll_cons hA
  obtain ⟨v1, vs1, d1, ds1, p1, q1, rfl, rfl, rfl, h1, r1⟩ := trodAll_cons r0
  obtain ⟨v2, vs2, d2, ds2, p2, q2, rfl, rfl, rfl, h2, r2⟩ := trodAll_cons r1
  obtain ⟨rfl, rfl, rfl⟩ := trodAll_nil r2
  obtain rfl : args = #[v0, v1, v2] := by cases args; simp_all
  obtain ⟨rfl, rfl⟩ := trodVars_none hV
  obtain ⟨a0, rfl, rfl, rfl, w0⟩ := open_int Try.underlying21 (hval 0 21 v0 rfl rfl) h0
  obtain ⟨a1, rfl, rfl, rfl, w1⟩ := open_int Try.underlying21 (hval 1 21 v1 rfl rfl) h1
  obtain ⟨a2, rfl, rfl, rfl, w2⟩ := open_int Try.underlying5 (hval 2 5 v2 rfl rfl) h2
  clear hA0 hval0
  simp only [List.append_nil] at hW'
  refine (walk a0 a1 a2 w0 w1 w2 W).mono fun e W' ⟨he, hg⟩ => ?_
  subst he
  exact ⟨_, rfl, post_of_same (pa := []) (pv := []) hW' (fun _ _ _ => (trodAll_cons_mk (shut_bool Try.underlying4 _) trodAll_mk0)) (fun sp _ => (trodAll_cons_mk (shut_int Try.underlying21 w0) (trodAll_cons_mk (shut_int Try.underlying21 w1) (trodAll_cons_mk (shut_int Try.underlying5 w2) trodAll_mk0)))) (fun _ _ => rfl) rfl
    (hg.frame _) hg.2.1 (ok_one (by kernel_rfl) rfl (okWide_bool_mk Try.underlying4 _))⟩

theorem over : Rows.wordDividesRow.holds Try.pinned (OpenSpec.ofChange Rows.wordDividesSpec) :=
  OpenClaim.holds_of_wide 5 Try.f5 rfl rfl rfl rfl rfl rfl rfl ⟨rfl, rfl, rfl, rfl, rfl⟩ rfl rfl rfl rfl rfl (by kernel_rfl) Try.func5 (by kernel_rfl)
    (of_decide_eq_true (by kernel_rfl)) (by unfold Func.isWrapper; first | (rw [if_pos (by decide +kernel)]; kernel_rfl) | (rw [if_neg (by decide +kernel)]; exact ⟨rfl, rfl⟩))
    (fun os started H enc _ => lifted os started H enc)

/-- ████ THE STATEMENT ████ -/
theorem proved : Rows.WordDividesSaid :=
  over
#print axioms proved
end Go.Proofs.Ytgjgfoggcomhlaa.wordDivides
