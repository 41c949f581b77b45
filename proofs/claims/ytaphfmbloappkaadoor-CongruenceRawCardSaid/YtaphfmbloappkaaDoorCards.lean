/-
  DERIVED. GIVEN WITH THE SEED: THE CARDS: each row of YtaphfmbloappkaaDoorRows.lean that lists a variable, with what it lists TIED to the program's text (the seventh form; the later family's looks); each row that meets fmt, with fmt's text TOLD by the authors' own Lean function (tested against real Go, not proved from fmt's source: count such statements apart). THE CARD IS WHAT COUNTS. Prove the row's statement (the work); the ties are given (YtaphfmbloappkaaDoorTie.lean); close each card by the builder's one call (the guide's Derived/Test/ToyasCard.lean, 'card_holds'). Laid BY PROGRAM, IN A SANDBOX (cutbox-door.mjs). By AI agents, Wed Nov 11 2026. No macro, syntax, notation, axiom, sorry.
-/
import Derived.Test.YtaphfmbloappkaaDoorRows
import GoSem.ClaimSeven
namespace Go.Proofs.YtaphfmbloappkaaDoor
namespace Rows

/-- THE TIED CARD OF 'timeboundlaw08.CongruenceSound'. -/
def congruenceSoundCard : Claim7 := { stood := { row := congruenceSoundRow, standIns := [], harness := (true, "9c1ce381ecf524bc0ecbe7774c4cc232da26a29bbb4eda4f9aa086e986453841"), looks := false }, kinds := [], alts := [], laidByText := true, laidKinds := [.data], laidTests := true, laidLooks := .later }
def CongruenceSoundCardSaid : Prop := Claim7.holds Tryd.pinned (.plain (OpenSpec.ofChange congruenceSoundSpec)) congruenceSoundCard

/-- THE TIED CARD OF 'timeboundlaw08.CongruenceNarrows'. -/
def congruenceNarrowsCard : Claim7 := { stood := { row := congruenceNarrowsRow, standIns := [], harness := (true, "9c1ce381ecf524bc0ecbe7774c4cc232da26a29bbb4eda4f9aa086e986453841"), looks := false }, kinds := [], alts := [], laidByText := true, laidKinds := [.data], laidTests := true, laidLooks := .later }
def CongruenceNarrowsCardSaid : Prop := Claim7.holds Tryd.pinned (.plain (OpenSpec.ofChange congruenceNarrowsSpec)) congruenceNarrowsCard

/-- THE TIED CARD OF 'timeboundlaw08.CongruenceRaw'. -/
def congruenceRawCard : Claim7 := { stood := { row := congruenceRawRow, standIns := [], harness := (true, "9c1ce381ecf524bc0ecbe7774c4cc232da26a29bbb4eda4f9aa086e986453841"), looks := false }, kinds := [], alts := [], laidByText := true, laidKinds := [.data], laidTests := true, laidLooks := .later }
def CongruenceRawCardSaid : Prop := Claim7.holds Tryd.pinned (.plain (OpenSpec.ofChange congruenceRawSpec)) congruenceRawCard

/-- THE TIED CARD OF 'timeboundlaw08.CongruenceMade'. -/
def congruenceMadeCard : Claim7 := { stood := { row := congruenceMadeRow, standIns := [], harness := (true, "9c1ce381ecf524bc0ecbe7774c4cc232da26a29bbb4eda4f9aa086e986453841"), looks := false }, kinds := [], alts := [], laidByText := true, laidKinds := [.data], laidTests := true, laidLooks := .later }
def CongruenceMadeCardSaid : Prop := Claim7.holds Tryd.pinned (.plain (OpenSpec.ofChange congruenceMadeSpec)) congruenceMadeCard

/-- THE TIED CARD OF 'timeboundlaw08.CongruenceLattice'. -/
def congruenceLatticeCard : Claim7 := { stood := { row := congruenceLatticeRow, standIns := [], harness := (true, "9c1ce381ecf524bc0ecbe7774c4cc232da26a29bbb4eda4f9aa086e986453841"), looks := false }, kinds := [], alts := [], laidByText := true, laidKinds := [.data], laidTests := true, laidLooks := .later }
def CongruenceLatticeCardSaid : Prop := Claim7.holds Tryd.pinned (.plain (OpenSpec.ofChange congruenceLatticeSpec)) congruenceLatticeCard

/-- THE SECOND FORM's CARD OF 'timeboundlaw08.CongruenceSound'. -/
def congruenceSoundUptoCard : Claim7 := { stood := { row := congruenceSoundUptoRow, standIns := [], harness := (true, "9c1ce381ecf524bc0ecbe7774c4cc232da26a29bbb4eda4f9aa086e986453841"), looks := false }, kinds := [], alts := [], laidByText := true, laidKinds := [.data], laidTests := true, laidLooks := .later }
def CongruenceSoundUptoCardSaid : Prop := Claim7.holds Tryd.pinned (.plain (OpenSpec.upto congruenceSoundSpec)) congruenceSoundUptoCard

/-- THE SECOND FORM's CARD OF 'timeboundlaw08.CongruenceNarrows'. -/
def congruenceNarrowsUptoCard : Claim7 := { stood := { row := congruenceNarrowsUptoRow, standIns := [], harness := (true, "9c1ce381ecf524bc0ecbe7774c4cc232da26a29bbb4eda4f9aa086e986453841"), looks := false }, kinds := [], alts := [], laidByText := true, laidKinds := [.data], laidTests := true, laidLooks := .later }
def CongruenceNarrowsUptoCardSaid : Prop := Claim7.holds Tryd.pinned (.plain (OpenSpec.upto congruenceNarrowsSpec)) congruenceNarrowsUptoCard

/-- THE SECOND FORM's CARD OF 'timeboundlaw08.CongruenceRaw'. -/
def congruenceRawUptoCard : Claim7 := { stood := { row := congruenceRawUptoRow, standIns := [], harness := (true, "9c1ce381ecf524bc0ecbe7774c4cc232da26a29bbb4eda4f9aa086e986453841"), looks := false }, kinds := [], alts := [], laidByText := true, laidKinds := [.data], laidTests := true, laidLooks := .later }
def CongruenceRawUptoCardSaid : Prop := Claim7.holds Tryd.pinned (.plain (OpenSpec.upto congruenceRawSpec)) congruenceRawUptoCard

/-- THE SECOND FORM's CARD OF 'timeboundlaw08.CongruenceMade'. -/
def congruenceMadeUptoCard : Claim7 := { stood := { row := congruenceMadeUptoRow, standIns := [], harness := (true, "9c1ce381ecf524bc0ecbe7774c4cc232da26a29bbb4eda4f9aa086e986453841"), looks := false }, kinds := [], alts := [], laidByText := true, laidKinds := [.data], laidTests := true, laidLooks := .later }
def CongruenceMadeUptoCardSaid : Prop := Claim7.holds Tryd.pinned (.plain (OpenSpec.upto congruenceMadeSpec)) congruenceMadeUptoCard

/-- THE SECOND FORM's CARD OF 'timeboundlaw08.CongruenceLattice'. -/
def congruenceLatticeUptoCard : Claim7 := { stood := { row := congruenceLatticeUptoRow, standIns := [], harness := (true, "9c1ce381ecf524bc0ecbe7774c4cc232da26a29bbb4eda4f9aa086e986453841"), looks := false }, kinds := [], alts := [], laidByText := true, laidKinds := [.data], laidTests := true, laidLooks := .later }
def CongruenceLatticeUptoCardSaid : Prop := Claim7.holds Tryd.pinned (.plain (OpenSpec.upto congruenceLatticeSpec)) congruenceLatticeUptoCard
end Rows
end Go.Proofs.YtaphfmbloappkaaDoor
