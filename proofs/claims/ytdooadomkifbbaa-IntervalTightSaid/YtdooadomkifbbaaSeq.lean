/-
  A region without a draw, walked operation by operation: passed over, or run to a value in the same world. The goal lies in a structure, so that no elaborator reduces it (a passed-over operation lets 'wpList' reduce). Conditions: as each step names.
-/
import Derived.WalkKit
import Derived.RowKit
namespace Go.Proofs.Ytdooadomkifbbaa
open Go.RowKit
structure WL (P : Program) (ops : Array Oper) (Q : Exit → Act → World → Prop) (l : List Oper) (a : Act) (w : World) : Prop where
  out : wpList P ops Q l a w
section
variable {P : Program} {ops : Array Oper} {Q : Exit → Act → World → Prop} {a a' : Act} {w : World} {rest : List Oper} {o : Oper} {v : Value}
theorem l_start {id : Nat} {l : List Oper} (h : WL P l.toArray Q l a w) : (Code.region id l.toArray false).wp P Q a w := wp_region_lit h.out
theorem l_off (hw : Region.wanted o (yielded ops a.tmps) = false) (ha : a.put o.dst undef = a') (h : WL P ops Q rest a' w) : WL P ops Q (o :: rest) a w :=
  ⟨wpList_step fun K hK => by rw [if_neg (by rw [hw]; decide)]; subst ha; exact hK _ _ h.out⟩
theorem l_run (hw : Region.wanted o (yielded ops a.tmps) = true) (hy : (execOp a.eval o).run P w = .ok (.value v) w) (ha : a.put o.dst v = a') (h : WL P ops Q rest a' w) : WL P ops Q (o :: rest) a w :=
  ⟨wpList_step fun K hK => by rw [if_pos hw]; unfold Oper.wp; rw [hy]; subst ha; exact hK _ _ h.out⟩
theorem l_done (h : Q .normal a w) : WL P ops Q [] a w := ⟨h⟩
end
end Go.Proofs.Ytdooadomkifbbaa
