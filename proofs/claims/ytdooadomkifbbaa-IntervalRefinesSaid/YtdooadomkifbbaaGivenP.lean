/-
  The contract of the law's helper 'partner', in the form that the printed walks use: it speaks where there is a partner. No condition.
-/
import Derived.Test.YtdooadomkifbbaaGivenA
import Derived.Test.YtdooadomkifbbaaWalksY
namespace Go.Proofs.YtdooadomkifbbaaG
open Go.RowKit Go.Proofs.Ytdooadomkifbbaa
def goodP (op : Int) (t : Bool) (n p q : Int) : Prop := fits op t n p q p = true ∨ fits op t n p q q = true ∨ fits op t n p q n = true ∨ fits op t n p q (n + 1) = true ∨ fits op t n p q (n - 1) = true
instance (op : Int) (t : Bool) (n p q : Int) : Decidable (goodP op t n p q) := by unfold goodP; infer_instance
def timeboundlaw07_partner.f (op : Int) (t : Bool) (n p q : Int) : Option Bool := if ((1 ≤ op ∧ op ≤ 14) ∧ -2147483649 ≤ n ∧ n ≤ 2147483648) ∧ goodP op t n p q then some true else none
theorem timeboundlaw07_partner.calls (op : Int) (t : Bool) (n p q : Int) (r : Bool) (w : World) (h : timeboundlaw07_partner.f op t n p q = some r) :
    Calls Try.prog 23 #[.int .i64 op, .bool t, .int .i64 n, .agg #[.int .i64 p, .int .i64 q]] w fun e w' => e = .returned (.bool r) ∧ Below w.heap.size w w' := by
  unfold timeboundlaw07_partner.f at h
  split at h
  · rename_i c
    simp only [Option.some.injEq] at h
    obtain rfl := h
    cases t
    · exact partner_false op n p q c.1.1.1 c.1.1.2 c.1.2.1 c.1.2.2 c.2 w
    · exact partner_true op n p q c.1.1.1 c.1.1.2 c.1.2.1 c.1.2.2 c.2 w
  · cases h
end Go.Proofs.YtdooadomkifbbaaG
