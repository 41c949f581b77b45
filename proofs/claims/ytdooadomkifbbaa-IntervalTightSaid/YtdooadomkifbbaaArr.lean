/-
  A small array of ints by value, opened and shut. Conditions: the types' forms, and the ints' kinds.
-/
import Derived.Test.YtdooadomkifbbaaPost
namespace Go.Proofs.Ytdooadomkifbbaa
open Go.ChangeShapes Go.WideShapes Go.ChangeAt Go.RowKit
section
variable {P : Program} {H : Type} {enc : TypeId × Value → H} {w : World} {base : Nat} {spare : Nat → Bool} {held : Bool} {t e : TypeId} {k : IntKind}
theorem open_arr2 {r : Reach} {b0 : Nat} {v : Value} {d : DataW H} {p : List MemPlace} (ht : P.underlying t = some (.array 2 e)) (he : P.underlying e = some (.int k)) (h1 : P.cellsOf e = 1) (h2 : P.cellsOf t = 2)
    (hv : Value.okWide P w r b0 t v) (h : DataW.Trod enc P w base spare held t v d p) :
    ∃ x y : Int, v = .agg #[.int k x, .int k y] ∧ d = .agg [.lit (.int k x), .lit (.int k y)] ∧ p = [] ∧ (Lit.int k x).wf = true ∧ (Lit.int k y).wf = true := by
  simp only [Value.okWide, ht] at hv
  obtain ⟨cs, rfl, hs, _⟩ := hv
  obtain ⟨fuel, hf⟩ := h
  obtain ⟨xs, m, _, hx, hl, hn, hg⟩ := DataW.trod_array ht hf
  rw [h1] at hg
  match cs, hs.trans h2 with
  | ⟨[c0, c1]⟩, _ =>
  match xs, hn with
  | [y0, y1], _ =>
  have g0 : DataW.trod enc P w base spare held m e [c0] = some y0 := by simpa [Value.cells] using hg 0 (by omega)
  have g1 : DataW.trod enc P w base spare held m e [c1] = some y1 := by simpa [Value.cells] using hg 1 (by omega)
  obtain ⟨x, e0, rfl, w0⟩ := DataW.trod_int he g0
  obtain ⟨y, e1, rfl, w1⟩ := DataW.trod_int he g1
  simp at e0 e1
  subst e0 e1
  simp only [Prod.mk.injEq] at hx
  exact ⟨x, y, rfl, by simpa using hx.1, by simpa using hx.2, w0, w1⟩
theorem shut_arr2 {x y : Int} (ht : P.underlying t = some (.array 2 e)) (he : P.underlying e = some (.int k)) (h1 : P.cellsOf e = 1) (h2 : P.cellsOf t = 2) (w0 : (Lit.int k x).wf = true) (w1 : (Lit.int k y).wf = true) :
    DataW.Trod enc P w base spare held t (.agg #[.int k x, .int k y]) (.agg [.lit (.int k x), .lit (.int k y)]) [] := by
  refine ⟨2, ?_⟩
  rw [DataW.trod_step]
  unfold DataW.trodStep
  simp only [ht, Value.cells]
  rw [if_pos (by simp [h2])]
  have g0 := trod_int_mk (enc := enc) (P := P) (w := w) (base := base) (spare := spare) (held := held) (n := x) 0 he w0
  have g1 := trod_int_mk (enc := enc) (P := P) (w := w) (base := base) (spare := spare) (held := held) (n := y) 0 he w1
  simp [List.range, List.range.loop, h1, g0, g1]
end
theorem bd_i32 {x : Int} (h : (Lit.int .i32 x).wf = true) : -2147483648 ≤ x ∧ x ≤ 2147483647 := by
  simp [Lit.wf, IntKind.min, IntKind.max, IntKind.signed, IntKind.bits] at h
  exact ⟨by omega, by omega⟩
theorem bd_u8 {x : Int} (h : (Lit.int .u8 x).wf = true) : 0 ≤ x ∧ x ≤ 255 := by
  simp [Lit.wf, IntKind.min, IntKind.max, IntKind.signed, IntKind.bits] at h
  exact ⟨by omega, by omega⟩
theorem bd_u32 {x : Int} (h : (Lit.int .u32 x).wf = true) : 0 ≤ x ∧ x ≤ 4294967295 := by
  simp [Lit.wf, IntKind.min, IntKind.max, IntKind.signed, IntKind.bits] at h
  exact ⟨by omega, by omega⟩
end Go.Proofs.Ytdooadomkifbbaa
