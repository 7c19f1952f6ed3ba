/-
  DERIVED. GIVEN WITH THE SEED: THE CARDS: each row of YtpkbjgmeejlchaaDoorRows.lean that lists a variable, with what it lists TIED to the program's text (the seventh form; the later family's looks); each row that meets fmt, with fmt's text TOLD by the authors' own Lean function (tested against real Go, not proved from fmt's source: count such statements apart). THE CARD IS WHAT COUNTS. Prove the row's statement (the work); the ties are given (YtpkbjgmeejlchaaDoorTie.lean); close each card by the builder's one call (the guide's Derived/Test/ToyasCard.lean, 'card_holds'). Laid BY PROGRAM, IN A SANDBOX (cutbox-door.mjs). By AI agents, Wed Nov 11 2026. No macro, syntax, notation, axiom, sorry.
-/
import Derived.Test.YtpkbjgmeejlchaaDoorRows
import GoSem.ClaimSeven
namespace Go.Proofs.YtpkbjgmeejlchaaDoor
namespace Rows

/-- THE TIED CARD OF 'laws.FnNexts'. -/
def fnNextsCard : Claim7 := { stood := { row := fnNextsRow, standIns := [], harness := (true, "e723f814a2214fbc0d57767bdc69989087b1db95f4a5632808a411f398bdda27"), looks := false }, kinds := [], alts := [], laidByText := true, laidKinds := [.data, .data, .data], laidTests := true, laidLooks := .later }
def FnNextsCardSaid : Prop := Claim7.holds Tryd.pinned (.plain (OpenSpec.ofChange fnNextsSpec)) fnNextsCard

/-- THE SECOND FORM's CARD OF 'laws.FnNexts'. -/
def fnNextsUptoCard : Claim7 := { stood := { row := fnNextsUptoRow, standIns := [], harness := (true, "e723f814a2214fbc0d57767bdc69989087b1db95f4a5632808a411f398bdda27"), looks := false }, kinds := [], alts := [], laidByText := true, laidKinds := [.data, .data, .data], laidTests := true, laidLooks := .later }
def FnNextsUptoCardSaid : Prop := Claim7.holds Tryd.pinned (.plain (OpenSpec.upto fnNextsSpec)) fnNextsUptoCard
end Rows
end Go.Proofs.YtpkbjgmeejlchaaDoor
