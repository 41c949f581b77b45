/-
  No cell of these rows narrows 'for every input' (looked for: loops, veiled, ifaces, maps, wideKeys, modest, calm, conditions, laid).
  DERIVED. THE GIVEN ROWS OF THIS SEAT. 6 by the template 'for every input the law returns true; each argument reads behind the call as it read before'; 0 by the template 'total and deterministic' (their statements: YtdooadomkifbbaaTotals.lean).
  GIVEN WITH THE SEED: the statements are not yours to turn. If you find one false, say at which input.
  Laid BY PROGRAM, IN A SANDBOX (cutbox-rows.mjs): the forced cells as the released guide's own fill.sh prints them over the translation 81e5b0a715c90473… (all of the seat's roots in one cut). By AI agents, Wed Nov 11 2026. No macro, syntax, notation, axiom, sorry.
-/
import Derived.Test.YtdooadomkifbbaaChecked
import GoSem.Claim
import GoSem.ClaimJoined
import GoSem.ClaimMapViews
import Derived.JoinedTies
import Derived.KernelRfl
namespace Go.Proofs.Ytdooadomkifbbaa
/- THE CELL 'sum', in the pinned program and in every row, IS THE sha256 OF THE DUMP (.gsa) THAT YtdooadomkifbbaaProg.lean LOADS. Nothing in Lean hashes anything: it is a label: what it is worth is what the hold of that sum in a sandbox is worth. -/
noncomputable def Try.pinned : Pinned := { name := "ytdooadomkifbbaa", sum := "81e5b0a715c90473d9a4c140a52deb5ab8cfe6776f7d983992404dfb5ec0985d", checked := Try.checked }
namespace Rows
def none {H : Type} : Left H := { results := [], args := [] }

/-- 'timeboundlaw07.IntervalRaw': WHATEVER THE INPUT: true; the input reads as it did. -/
def intervalRawSpec : ChangeSpec := { name := "intervalRaw", fn := fun _ => fun
  | [d1, d2, d3, d4, d5] => { results := [.lit (.bool true)], args := [d1, d2, d3, d4, d5] }
  | _ => none }
def intervalRawRow : OpenClaim := { program := "ytdooadomkifbbaa", sum := "81e5b0a715c90473d9a4c140a52deb5ab8cfe6776f7d983992404dfb5ec0985d", func := "timebound/timeboundlaw07.IntervalRaw", spec := "intervalRaw", apart := false }
def IntervalRawSaid : Prop := intervalRawRow.holds Try.pinned (OpenSpec.ofChange intervalRawSpec)

/-- ITS FALSE NEIGHBOUR: 'it returns false'. Refute it at one input. -/
def intervalRawWrong : ChangeSpec := { name := "intervalRaw", fn := fun _ => fun
  | [d1, d2, d3, d4, d5] => { results := [.lit (.bool false)], args := [d1, d2, d3, d4, d5] }
  | _ => none }
def IntervalRawWrongFalsely : Prop := intervalRawRow.holds Try.pinned (OpenSpec.ofChange intervalRawWrong)

/-- 'timeboundlaw07.IntervalMade': WHATEVER THE INPUT: true; the input reads as it did. -/
def intervalMadeSpec : ChangeSpec := { name := "intervalMade", fn := fun _ => fun
  | [d1, d2, d3, d4, d5, d6, d7] => { results := [.lit (.bool true)], args := [d1, d2, d3, d4, d5, d6, d7] }
  | _ => none }
def intervalMadeRow : OpenClaim := { program := "ytdooadomkifbbaa", sum := "81e5b0a715c90473d9a4c140a52deb5ab8cfe6776f7d983992404dfb5ec0985d", func := "timebound/timeboundlaw07.IntervalMade", spec := "intervalMade", apart := false }
def IntervalMadeSaid : Prop := intervalMadeRow.holds Try.pinned (OpenSpec.ofChange intervalMadeSpec)

/-- ITS FALSE NEIGHBOUR: 'it returns false'. Refute it at one input. -/
def intervalMadeWrong : ChangeSpec := { name := "intervalMade", fn := fun _ => fun
  | [d1, d2, d3, d4, d5, d6, d7] => { results := [.lit (.bool false)], args := [d1, d2, d3, d4, d5, d6, d7] }
  | _ => none }
def IntervalMadeWrongFalsely : Prop := intervalMadeRow.holds Try.pinned (OpenSpec.ofChange intervalMadeWrong)

/-- 'timeboundlaw07.IntervalSound': WHATEVER THE INPUT: true; the input reads as it did. -/
def intervalSoundSpec : ChangeSpec := { name := "intervalSound", fn := fun _ => fun
  | [d1, d2, d3, d4, d5, d6, d7, d8] => { results := [.lit (.bool true)], args := [d1, d2, d3, d4, d5, d6, d7, d8] }
  | _ => none }
def intervalSoundRow : OpenClaim := { program := "ytdooadomkifbbaa", sum := "81e5b0a715c90473d9a4c140a52deb5ab8cfe6776f7d983992404dfb5ec0985d", func := "timebound/timeboundlaw07.IntervalSound", spec := "intervalSound", apart := false }
def IntervalSoundSaid : Prop := intervalSoundRow.holds Try.pinned (OpenSpec.ofChange intervalSoundSpec)

/-- ITS FALSE NEIGHBOUR: 'it returns false'. Refute it at one input. -/
def intervalSoundWrong : ChangeSpec := { name := "intervalSound", fn := fun _ => fun
  | [d1, d2, d3, d4, d5, d6, d7, d8] => { results := [.lit (.bool false)], args := [d1, d2, d3, d4, d5, d6, d7, d8] }
  | _ => none }
def IntervalSoundWrongFalsely : Prop := intervalSoundRow.holds Try.pinned (OpenSpec.ofChange intervalSoundWrong)

/-- 'timeboundlaw07.IntervalTight': WHATEVER THE INPUT: true; the input reads as it did. -/
def intervalTightSpec : ChangeSpec := { name := "intervalTight", fn := fun _ => fun
  | [d1, d2, d3, d4, d5, d6, d7, d8] => { results := [.lit (.bool true)], args := [d1, d2, d3, d4, d5, d6, d7, d8] }
  | _ => none }
def intervalTightRow : OpenClaim := { program := "ytdooadomkifbbaa", sum := "81e5b0a715c90473d9a4c140a52deb5ab8cfe6776f7d983992404dfb5ec0985d", func := "timebound/timeboundlaw07.IntervalTight", spec := "intervalTight", apart := false }
def IntervalTightSaid : Prop := intervalTightRow.holds Try.pinned (OpenSpec.ofChange intervalTightSpec)

/-- ITS FALSE NEIGHBOUR: 'it returns false'. Refute it at one input. -/
def intervalTightWrong : ChangeSpec := { name := "intervalTight", fn := fun _ => fun
  | [d1, d2, d3, d4, d5, d6, d7, d8] => { results := [.lit (.bool false)], args := [d1, d2, d3, d4, d5, d6, d7, d8] }
  | _ => none }
def IntervalTightWrongFalsely : Prop := intervalTightRow.holds Try.pinned (OpenSpec.ofChange intervalTightWrong)

/-- 'timeboundlaw07.IntervalRefines': WHATEVER THE INPUT: true; the input reads as it did. -/
def intervalRefinesSpec : ChangeSpec := { name := "intervalRefines", fn := fun _ => fun
  | [d1, d2, d3, d4, d5, d6, d7, d8] => { results := [.lit (.bool true)], args := [d1, d2, d3, d4, d5, d6, d7, d8] }
  | _ => none }
def intervalRefinesRow : OpenClaim := { program := "ytdooadomkifbbaa", sum := "81e5b0a715c90473d9a4c140a52deb5ab8cfe6776f7d983992404dfb5ec0985d", func := "timebound/timeboundlaw07.IntervalRefines", spec := "intervalRefines", apart := false }
def IntervalRefinesSaid : Prop := intervalRefinesRow.holds Try.pinned (OpenSpec.ofChange intervalRefinesSpec)

/-- ITS FALSE NEIGHBOUR: 'it returns false'. Refute it at one input. -/
def intervalRefinesWrong : ChangeSpec := { name := "intervalRefines", fn := fun _ => fun
  | [d1, d2, d3, d4, d5, d6, d7, d8] => { results := [.lit (.bool false)], args := [d1, d2, d3, d4, d5, d6, d7, d8] }
  | _ => none }
def IntervalRefinesWrongFalsely : Prop := intervalRefinesRow.holds Try.pinned (OpenSpec.ofChange intervalRefinesWrong)

/-- 'timeboundlaw07.IntervalLattice': WHATEVER THE INPUT: true; the input reads as it did. -/
def intervalLatticeSpec : ChangeSpec := { name := "intervalLattice", fn := fun _ => fun
  | [d1, d2, d3, d4, d5, d6, d7] => { results := [.lit (.bool true)], args := [d1, d2, d3, d4, d5, d6, d7] }
  | _ => none }
def intervalLatticeRow : OpenClaim := { program := "ytdooadomkifbbaa", sum := "81e5b0a715c90473d9a4c140a52deb5ab8cfe6776f7d983992404dfb5ec0985d", func := "timebound/timeboundlaw07.IntervalLattice", spec := "intervalLattice", apart := false }
def IntervalLatticeSaid : Prop := intervalLatticeRow.holds Try.pinned (OpenSpec.ofChange intervalLatticeSpec)

/-- ITS FALSE NEIGHBOUR: 'it returns false'. Refute it at one input. -/
def intervalLatticeWrong : ChangeSpec := { name := "intervalLattice", fn := fun _ => fun
  | [d1, d2, d3, d4, d5, d6, d7] => { results := [.lit (.bool false)], args := [d1, d2, d3, d4, d5, d6, d7] }
  | _ => none }
def IntervalLatticeWrongFalsely : Prop := intervalLatticeRow.holds Try.pinned (OpenSpec.ofChange intervalLatticeWrong)

/- THE SECOND FORM. 'bulk': how many values and letters a reading holds, each counted each time it is reached (what is shared counts as often as it is met; a slice's spare places count too). A statement '..UptoSaid' is the law's where the arguments, and the package variables that the reading takes, are together of bulk at most 1048576: NARROWER than '..Said'. Prove '..Said' where nothing that the law and all that it calls make is longer than what came in: it says more and counts as full. Else prove '..UptoSaid'. A law counts once. -/
mutual
def uptoBulk {H : Type} : DataW H → Nat
  | .lit (.string bytes) => bytes.length + 1
  | .lit _ => 1
  | .nil => 1
  | .ptr d => uptoBulk d + 1
  | .slice elems spare => uptoBulkAll elems + uptoBulkAll spare + 1
  | .agg parts => uptoBulkAll parts + 1
  | .iface _ d => uptoBulk d + 1
  | .map entries => uptoBulkEntries entries + 1
  | .held _ => 1
def uptoBulkAll {H : Type} : List (DataW H) → Nat
  | [] => 0
  | d :: r => uptoBulk d + uptoBulkAll r
def uptoBulkEntries {H : Type} : List (Lit × DataW H) → Nat
  | [] => 0
  | x :: r => uptoBulkEntry x + uptoBulkEntries r
def uptoBulkEntry {H : Type} : Lit × DataW H → Nat
  | (.string bytes, d) => bytes.length + uptoBulk d + 1
  | (_, d) => uptoBulk d + 1
 end
def uptoSmall : (H : Type) → List (DataW H) → Bool := fun _ ds => decide (uptoBulkAll ds ≤ 1048576)
def OpenSpec.upto (s : _root_.Go.ChangeSpec) : _root_.Go.OpenSpec := { _root_.Go.OpenSpec.ofChange s with cond := some uptoSmall }

/-- 'timeboundlaw07.IntervalRaw', WHERE WHAT IT READS IS OF BULK AT MOST 1048576: true; the input reads as it did. -/
def intervalRawUptoRow : OpenClaim := { program := "ytdooadomkifbbaa", sum := "81e5b0a715c90473d9a4c140a52deb5ab8cfe6776f7d983992404dfb5ec0985d", func := "timebound/timeboundlaw07.IntervalRaw", spec := "intervalRaw", apart := false, narrowed := true }
def IntervalRawUptoSaid : Prop := intervalRawUptoRow.holds Try.pinned (OpenSpec.upto intervalRawSpec)

/-- 'timeboundlaw07.IntervalMade', WHERE WHAT IT READS IS OF BULK AT MOST 1048576: true; the input reads as it did. -/
def intervalMadeUptoRow : OpenClaim := { program := "ytdooadomkifbbaa", sum := "81e5b0a715c90473d9a4c140a52deb5ab8cfe6776f7d983992404dfb5ec0985d", func := "timebound/timeboundlaw07.IntervalMade", spec := "intervalMade", apart := false, narrowed := true }
def IntervalMadeUptoSaid : Prop := intervalMadeUptoRow.holds Try.pinned (OpenSpec.upto intervalMadeSpec)

/-- 'timeboundlaw07.IntervalSound', WHERE WHAT IT READS IS OF BULK AT MOST 1048576: true; the input reads as it did. -/
def intervalSoundUptoRow : OpenClaim := { program := "ytdooadomkifbbaa", sum := "81e5b0a715c90473d9a4c140a52deb5ab8cfe6776f7d983992404dfb5ec0985d", func := "timebound/timeboundlaw07.IntervalSound", spec := "intervalSound", apart := false, narrowed := true }
def IntervalSoundUptoSaid : Prop := intervalSoundUptoRow.holds Try.pinned (OpenSpec.upto intervalSoundSpec)

/-- 'timeboundlaw07.IntervalTight', WHERE WHAT IT READS IS OF BULK AT MOST 1048576: true; the input reads as it did. -/
def intervalTightUptoRow : OpenClaim := { program := "ytdooadomkifbbaa", sum := "81e5b0a715c90473d9a4c140a52deb5ab8cfe6776f7d983992404dfb5ec0985d", func := "timebound/timeboundlaw07.IntervalTight", spec := "intervalTight", apart := false, narrowed := true }
def IntervalTightUptoSaid : Prop := intervalTightUptoRow.holds Try.pinned (OpenSpec.upto intervalTightSpec)

/-- 'timeboundlaw07.IntervalRefines', WHERE WHAT IT READS IS OF BULK AT MOST 1048576: true; the input reads as it did. -/
def intervalRefinesUptoRow : OpenClaim := { program := "ytdooadomkifbbaa", sum := "81e5b0a715c90473d9a4c140a52deb5ab8cfe6776f7d983992404dfb5ec0985d", func := "timebound/timeboundlaw07.IntervalRefines", spec := "intervalRefines", apart := false, narrowed := true }
def IntervalRefinesUptoSaid : Prop := intervalRefinesUptoRow.holds Try.pinned (OpenSpec.upto intervalRefinesSpec)

/-- 'timeboundlaw07.IntervalLattice', WHERE WHAT IT READS IS OF BULK AT MOST 1048576: true; the input reads as it did. -/
def intervalLatticeUptoRow : OpenClaim := { program := "ytdooadomkifbbaa", sum := "81e5b0a715c90473d9a4c140a52deb5ab8cfe6776f7d983992404dfb5ec0985d", func := "timebound/timeboundlaw07.IntervalLattice", spec := "intervalLattice", apart := false, narrowed := true }
def IntervalLatticeUptoSaid : Prop := intervalLatticeUptoRow.holds Try.pinned (OpenSpec.upto intervalLatticeSpec)

end Rows
end Go.Proofs.Ytdooadomkifbbaa
