/-
  DERIVED. GIVEN WITH THE SEED: THE CARDS: each row of YtcdpapgkgiifjaaDoorRows.lean that lists a variable, with what it lists TIED to the program's text (the seventh form; the later family's looks); each row that meets fmt, with fmt's text TOLD by the authors' own Lean function (tested against real Go, not proved from fmt's source: count such statements apart). THE CARD IS WHAT COUNTS. Prove the row's statement (the work); the ties are given (YtcdpapgkgiifjaaDoorTie.lean); close each card by the builder's one call (the guide's Derived/Test/ToyasCard.lean, 'card_holds'). Laid BY PROGRAM, IN A SANDBOX (cutbox-door.mjs). By AI agents, Wed Nov 11 2026. No macro, syntax, notation, axiom, sorry.
-/
import Derived.Test.YtcdpapgkgiifjaaDoorRows
import GoSem.ClaimSeven
namespace Go.Proofs.YtcdpapgkgiifjaaDoor
namespace Rows

/-- THE TIED CARD OF 'beaconlaw1.UtfAll'. -/
def utfAllCard : Claim7 := { stood := { row := utfAllRow, standIns := [], harness := (true, "5ab81598d06fbbf33d612bfdde636ec19793534bc8072eba351fc57f91ed825a"), looks := true }, kinds := [], alts := [], laidByText := true, laidKinds := [.data, .pinned], laidTests := true, laidLooks := .later }
def UtfAllCardSaid : Prop := Claim7.holds Tryd.pinned (.plain (OpenSpec.ofChange utfAllSpec)) utfAllCard

/-- THE TIED CARD OF 'beaconlaw1.UtfSplits'. -/
def utfSplitsCard : Claim7 := { stood := { row := utfSplitsRow, standIns := [], harness := (true, "5ab81598d06fbbf33d612bfdde636ec19793534bc8072eba351fc57f91ed825a"), looks := true }, kinds := [], alts := [], laidByText := true, laidKinds := [.data, .pinned], laidTests := true, laidLooks := .later }
def UtfSplitsCardSaid : Prop := Claim7.holds Tryd.pinned (.plain (OpenSpec.ofChange utfSplitsSpec)) utfSplitsCard

/-- THE TIED CARD OF 'beaconlaw1.UtfBytes'. -/
def utfBytesCard : Claim7 := { stood := { row := utfBytesRow, standIns := [], harness := (true, "5ab81598d06fbbf33d612bfdde636ec19793534bc8072eba351fc57f91ed825a"), looks := true }, kinds := [], alts := [], laidByText := true, laidKinds := [.data, .pinned], laidTests := true, laidLooks := .later }
def UtfBytesCardSaid : Prop := Claim7.holds Tryd.pinned (.plain (OpenSpec.ofChange utfBytesSpec)) utfBytesCard

/-- THE TIED CARD OF 'beaconlaw3.VtEach'. -/
def vtEachCard : Claim7 := { stood := { row := vtEachRow, standIns := [], harness := (true, "5ab81598d06fbbf33d612bfdde636ec19793534bc8072eba351fc57f91ed825a"), looks := true }, kinds := [], alts := [], laidByText := true, laidKinds := [.data, .pinned], laidTests := true, laidLooks := .later }
def VtEachCardSaid : Prop := Claim7.holds Tryd.pinned (.plain (OpenSpec.ofChange vtEachSpec)) vtEachCard

/-- THE TIED CARD OF 'beaconlaw3.VtFeeds'. -/
def vtFeedsCard : Claim7 := { stood := { row := vtFeedsRow, standIns := [], harness := (true, "5ab81598d06fbbf33d612bfdde636ec19793534bc8072eba351fc57f91ed825a"), looks := true }, kinds := [], alts := [], laidByText := true, laidKinds := [.data, .pinned], laidTests := true, laidLooks := .later }
def VtFeedsCardSaid : Prop := Claim7.holds Tryd.pinned (.plain (OpenSpec.ofChange vtFeedsSpec)) vtFeedsCard

/-- THE TIED CARD OF 'beaconlaw3.VtSplits'. -/
def vtSplitsCard : Claim7 := { stood := { row := vtSplitsRow, standIns := [], harness := (true, "5ab81598d06fbbf33d612bfdde636ec19793534bc8072eba351fc57f91ed825a"), looks := true }, kinds := [], alts := [], laidByText := true, laidKinds := [.data, .pinned], laidTests := true, laidLooks := .later }
def VtSplitsCardSaid : Prop := Claim7.holds Tryd.pinned (.plain (OpenSpec.ofChange vtSplitsSpec)) vtSplitsCard

/-- THE SECOND FORM's CARD OF 'beaconlaw1.UtfAll'. -/
def utfAllUptoCard : Claim7 := { stood := { row := utfAllUptoRow, standIns := [], harness := (true, "5ab81598d06fbbf33d612bfdde636ec19793534bc8072eba351fc57f91ed825a"), looks := true }, kinds := [], alts := [], laidByText := true, laidKinds := [.data, .pinned], laidTests := true, laidLooks := .later }
def UtfAllUptoCardSaid : Prop := Claim7.holds Tryd.pinned (.plain (OpenSpec.upto utfAllSpec)) utfAllUptoCard

/-- THE SECOND FORM's CARD OF 'beaconlaw1.UtfSplits'. -/
def utfSplitsUptoCard : Claim7 := { stood := { row := utfSplitsUptoRow, standIns := [], harness := (true, "5ab81598d06fbbf33d612bfdde636ec19793534bc8072eba351fc57f91ed825a"), looks := true }, kinds := [], alts := [], laidByText := true, laidKinds := [.data, .pinned], laidTests := true, laidLooks := .later }
def UtfSplitsUptoCardSaid : Prop := Claim7.holds Tryd.pinned (.plain (OpenSpec.upto utfSplitsSpec)) utfSplitsUptoCard

/-- THE SECOND FORM's CARD OF 'beaconlaw1.UtfBytes'. -/
def utfBytesUptoCard : Claim7 := { stood := { row := utfBytesUptoRow, standIns := [], harness := (true, "5ab81598d06fbbf33d612bfdde636ec19793534bc8072eba351fc57f91ed825a"), looks := true }, kinds := [], alts := [], laidByText := true, laidKinds := [.data, .pinned], laidTests := true, laidLooks := .later }
def UtfBytesUptoCardSaid : Prop := Claim7.holds Tryd.pinned (.plain (OpenSpec.upto utfBytesSpec)) utfBytesUptoCard

/-- THE SECOND FORM's CARD OF 'beaconlaw3.VtEach'. -/
def vtEachUptoCard : Claim7 := { stood := { row := vtEachUptoRow, standIns := [], harness := (true, "5ab81598d06fbbf33d612bfdde636ec19793534bc8072eba351fc57f91ed825a"), looks := true }, kinds := [], alts := [], laidByText := true, laidKinds := [.data, .pinned], laidTests := true, laidLooks := .later }
def VtEachUptoCardSaid : Prop := Claim7.holds Tryd.pinned (.plain (OpenSpec.upto vtEachSpec)) vtEachUptoCard

/-- THE SECOND FORM's CARD OF 'beaconlaw3.VtFeeds'. -/
def vtFeedsUptoCard : Claim7 := { stood := { row := vtFeedsUptoRow, standIns := [], harness := (true, "5ab81598d06fbbf33d612bfdde636ec19793534bc8072eba351fc57f91ed825a"), looks := true }, kinds := [], alts := [], laidByText := true, laidKinds := [.data, .pinned], laidTests := true, laidLooks := .later }
def VtFeedsUptoCardSaid : Prop := Claim7.holds Tryd.pinned (.plain (OpenSpec.upto vtFeedsSpec)) vtFeedsUptoCard

/-- THE SECOND FORM's CARD OF 'beaconlaw3.VtSplits'. -/
def vtSplitsUptoCard : Claim7 := { stood := { row := vtSplitsUptoRow, standIns := [], harness := (true, "5ab81598d06fbbf33d612bfdde636ec19793534bc8072eba351fc57f91ed825a"), looks := true }, kinds := [], alts := [], laidByText := true, laidKinds := [.data, .pinned], laidTests := true, laidLooks := .later }
def VtSplitsUptoCardSaid : Prop := Claim7.holds Tryd.pinned (.plain (OpenSpec.upto vtSplitsSpec)) vtSplitsUptoCard
end Rows
end Go.Proofs.YtcdpapgkgiifjaaDoor
