/-
  A small array of three places of ints by value, opened and shut. Conditions: the types' forms, and the ints' kinds.
-/
import Derived.Test.YtdooadomkifbbaaArr
namespace Go.Proofs.Ytdooadomkifbbaa
open Go.ChangeShapes Go.WideShapes Go.ChangeAt Go.RowKit
section
variable {P : Program} {H : Type} {enc : TypeId × Value → H} {w : World} {base : Nat} {spare : Nat → Bool} {held : Bool} {t e : TypeId} {k : IntKind}
theorem open_arr3 {r : Reach} {b0 : Nat} {v : Value} {d : DataW H} {p : List MemPlace} (ht : P.underlying t = some (.array 3 e)) (he : P.underlying e = some (.int k)) (h1 : P.cellsOf e = 1) (h2 : P.cellsOf t = 3)
    (hv : Value.okWide P w r b0 t v) (h : DataW.Trod enc P w base spare held t v d p) :
    ∃ x y z : Int, v = .agg #[.int k x, .int k y, .int k z] ∧ d = .agg [.lit (.int k x), .lit (.int k y), .lit (.int k z)] ∧ p = [] ∧ (Lit.int k x).wf = true ∧ (Lit.int k y).wf = true ∧ (Lit.int k z).wf = true := by
  simp only [Value.okWide, ht] at hv
  obtain ⟨cs, rfl, hs, _⟩ := hv
  obtain ⟨fuel, hf⟩ := h
  obtain ⟨xs, m, _, hx, hl, hn, hg⟩ := DataW.trod_array ht hf
  rw [h1] at hg
  match cs, hs.trans h2 with
  | ⟨[c0, c1, c2]⟩, _ =>
  match xs, hn with
  | [y0, y1, y2], _ =>
  have g0 : DataW.trod enc P w base spare held m e [c0] = some y0 := by simpa [Value.cells] using hg 0 (by omega)
  have g1 : DataW.trod enc P w base spare held m e [c1] = some y1 := by simpa [Value.cells] using hg 1 (by omega)
  have g2 : DataW.trod enc P w base spare held m e [c2] = some y2 := by simpa [Value.cells] using hg 2 (by omega)
  obtain ⟨x, e0, rfl, w0⟩ := DataW.trod_int he g0
  obtain ⟨y, e1, rfl, w1⟩ := DataW.trod_int he g1
  obtain ⟨z, e2, rfl, w2⟩ := DataW.trod_int he g2
  simp at e0 e1 e2
  subst e0 e1 e2
  simp only [Prod.mk.injEq] at hx
  exact ⟨x, y, z, rfl, by simpa using hx.1, by simpa using hx.2, w0, w1, w2⟩
theorem shut_arr3 {x y z : Int} (ht : P.underlying t = some (.array 3 e)) (he : P.underlying e = some (.int k)) (h1 : P.cellsOf e = 1) (h2 : P.cellsOf t = 3) (w0 : (Lit.int k x).wf = true) (w1 : (Lit.int k y).wf = true) (w2 : (Lit.int k z).wf = true) :
    DataW.Trod enc P w base spare held t (.agg #[.int k x, .int k y, .int k z]) (.agg [.lit (.int k x), .lit (.int k y), .lit (.int k z)]) [] := by
  refine ⟨2, ?_⟩
  rw [DataW.trod_step]
  unfold DataW.trodStep
  simp only [ht, Value.cells]
  rw [if_pos (by simp [h2])]
  have g0 := trod_int_mk (enc := enc) (P := P) (w := w) (base := base) (spare := spare) (held := held) (n := x) 0 he w0
  have g1 := trod_int_mk (enc := enc) (P := P) (w := w) (base := base) (spare := spare) (held := held) (n := y) 0 he w1
  have g2 := trod_int_mk (enc := enc) (P := P) (w := w) (base := base) (spare := spare) (held := held) (n := z) 0 he w2
  simp [List.range, List.range.loop, h1, g0, g1, g2]
end
end Go.Proofs.Ytdooadomkifbbaa
