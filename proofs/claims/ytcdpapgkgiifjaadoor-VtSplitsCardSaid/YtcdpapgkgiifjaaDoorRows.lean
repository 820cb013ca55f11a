/-
  NARROWER THAN 'FOR EVERY INPUT', by the rows' own cells (each row's printed sentence says how): UtfAll: laid · UtfSplits: laid · UtfBytes: laid · VtEach: laid · VtFeeds: laid · VtSplits: laid.
  DERIVED. THE GIVEN ROWS OF THIS SEAT. 6 by the template 'for every input the law returns true; each argument reads behind the call as it read before'; 0 by the template 'total and deterministic' (their statements: YtcdpapgkgiifjaaDoorTotals.lean).
  GIVEN WITH THE SEED: the statements are not yours to turn. If you find one false, say at which input.
  Laid BY PROGRAM, IN A SANDBOX (cutbox-rows.mjs): the forced cells as the released guide's own fill.sh prints them over the translation cc6bfddc18e9a9e6… (all of the seat's roots in one cut). By AI agents, Wed Nov 11 2026. No macro, syntax, notation, axiom, sorry.
-/
import Derived.Test.YtcdpapgkgiifjaaDoorChecked
import GoSem.PinnedTables
import GoSem.Claim
import GoSem.ClaimJoined
import GoSem.ClaimMapViews
import Derived.JoinedTies
import Derived.KernelRfl
namespace Go.Proofs.YtcdpapgkgiifjaaDoor
/- THE CELL 'sum', in the pinned program and in every row, IS THE sha256 OF THE DUMP (.gsa) THAT YtcdpapgkgiifjaaDoorProg.lean LOADS. Nothing in Lean hashes anything: it is a label: what it is worth is what the hold of that sum in a sandbox is worth. -/
noncomputable def Tryd.pinned : Pinned := { name := "ytcdpapgkgiifjaadoor", sum := "cc6bfddc18e9a9e631d9e652c2e4664180423477c07399b8b119ddf1623218df", checked := Tryd.checked }
namespace Rows
def none {H : Type} : Left H := { results := [], args := [] }

/- WHAT THE LISTED PACKAGE-LEVEL VARIABLES READ AS WHEN THE CALL BEGINS. Each datum BY PROGRAM (the guide's laid-datum.mjs) off the statement by which the dump's own 'gosem.cut.vars' lays the variable. In a bare row this is a premise. The card (YtcdpapgkgiifjaaDoorCards.lean) ties it to the program's text. -/
def laid_unicode_utf8_acceptRanges {H : Type} : DataW H := .agg [.agg [.lit (.int .u8 128), .lit (.int .u8 191)], .agg [.lit (.int .u8 160), .lit (.int .u8 191)], .agg [.lit (.int .u8 128), .lit (.int .u8 159)], .agg [.lit (.int .u8 144), .lit (.int .u8 191)], .agg [.lit (.int .u8 128), .lit (.int .u8 143)], .agg [.lit (.int .u8 0), .lit (.int .u8 0)], .agg [.lit (.int .u8 0), .lit (.int .u8 0)], .agg [.lit (.int .u8 0), .lit (.int .u8 0)], .agg [.lit (.int .u8 0), .lit (.int .u8 0)], .agg [.lit (.int .u8 0), .lit (.int .u8 0)], .agg [.lit (.int .u8 0), .lit (.int .u8 0)], .agg [.lit (.int .u8 0), .lit (.int .u8 0)], .agg [.lit (.int .u8 0), .lit (.int .u8 0)], .agg [.lit (.int .u8 0), .lit (.int .u8 0)], .agg [.lit (.int .u8 0), .lit (.int .u8 0)], .agg [.lit (.int .u8 0), .lit (.int .u8 0)]]
/-- One of Go's own tables, pinned by name: the form's constant. -/
def laid_unicode_utf8_first : DataW Unit := Go.Pinned.utf8First

/-- 'beaconlaw1.UtfAll': WHATEVER THE INPUT: true; the input reads as it did. -/
def utfAllSpec : ChangeSpec := { name := "utfAll", fn := fun _ => fun
  | [d] => { results := [.lit (.bool true)], args := [d] }
  | _ => none }
def utfAllRow : OpenClaim := { program := "ytcdpapgkgiifjaadoor", sum := "cc6bfddc18e9a9e631d9e652c2e4664180423477c07399b8b119ddf1623218df", func := "beacon/beaconlaw1.UtfAll", spec := "utfAll", recurses := true, named := ["unicode/utf8.first", "unicode/utf8.acceptRanges"], apart := false, laid := [("unicode/utf8.acceptRanges", laid_unicode_utf8_acceptRanges), ("unicode/utf8.first", laid_unicode_utf8_first)] }
def UtfAllSaid : Prop := utfAllRow.holds Tryd.pinned (OpenSpec.ofChange utfAllSpec)

/-- ITS FALSE NEIGHBOUR: 'it returns false'. Refute it at one input. -/
def utfAllWrong : ChangeSpec := { name := "utfAll", fn := fun _ => fun
  | [d] => { results := [.lit (.bool false)], args := [d] }
  | _ => none }
def UtfAllWrongFalsely : Prop := utfAllRow.holds Tryd.pinned (OpenSpec.ofChange utfAllWrong)

/-- 'beaconlaw1.UtfSplits': WHATEVER THE INPUT: true; the input reads as it did. -/
def utfSplitsSpec : ChangeSpec := { name := "utfSplits", fn := fun _ => fun
  | [d] => { results := [.lit (.bool true)], args := [d] }
  | _ => none }
def utfSplitsRow : OpenClaim := { program := "ytcdpapgkgiifjaadoor", sum := "cc6bfddc18e9a9e631d9e652c2e4664180423477c07399b8b119ddf1623218df", func := "beacon/beaconlaw1.UtfSplits", spec := "utfSplits", named := ["unicode/utf8.first", "unicode/utf8.acceptRanges"], apart := false, laid := [("unicode/utf8.acceptRanges", laid_unicode_utf8_acceptRanges), ("unicode/utf8.first", laid_unicode_utf8_first)] }
def UtfSplitsSaid : Prop := utfSplitsRow.holds Tryd.pinned (OpenSpec.ofChange utfSplitsSpec)

/-- ITS FALSE NEIGHBOUR: 'it returns false'. Refute it at one input. -/
def utfSplitsWrong : ChangeSpec := { name := "utfSplits", fn := fun _ => fun
  | [d] => { results := [.lit (.bool false)], args := [d] }
  | _ => none }
def UtfSplitsWrongFalsely : Prop := utfSplitsRow.holds Tryd.pinned (OpenSpec.ofChange utfSplitsWrong)

/-- 'beaconlaw1.UtfBytes': WHATEVER THE INPUT: true; the input reads as it did. -/
def utfBytesSpec : ChangeSpec := { name := "utfBytes", fn := fun _ => fun
  | [d] => { results := [.lit (.bool true)], args := [d] }
  | _ => none }
def utfBytesRow : OpenClaim := { program := "ytcdpapgkgiifjaadoor", sum := "cc6bfddc18e9a9e631d9e652c2e4664180423477c07399b8b119ddf1623218df", func := "beacon/beaconlaw1.UtfBytes", spec := "utfBytes", recurses := true, named := ["unicode/utf8.first", "unicode/utf8.acceptRanges"], apart := false, laid := [("unicode/utf8.acceptRanges", laid_unicode_utf8_acceptRanges), ("unicode/utf8.first", laid_unicode_utf8_first)] }
def UtfBytesSaid : Prop := utfBytesRow.holds Tryd.pinned (OpenSpec.ofChange utfBytesSpec)

/-- ITS FALSE NEIGHBOUR: 'it returns false'. Refute it at one input. -/
def utfBytesWrong : ChangeSpec := { name := "utfBytes", fn := fun _ => fun
  | [d] => { results := [.lit (.bool false)], args := [d] }
  | _ => none }
def UtfBytesWrongFalsely : Prop := utfBytesRow.holds Tryd.pinned (OpenSpec.ofChange utfBytesWrong)

/-- 'beaconlaw3.VtEach': WHATEVER THE INPUT: true; the input reads as it did. -/
def vtEachSpec : ChangeSpec := { name := "vtEach", fn := fun _ => fun
  | [d] => { results := [.lit (.bool true)], args := [d] }
  | _ => none }
def vtEachRow : OpenClaim := { program := "ytcdpapgkgiifjaadoor", sum := "cc6bfddc18e9a9e631d9e652c2e4664180423477c07399b8b119ddf1623218df", func := "beacon/beaconlaw3.VtEach", spec := "vtEach", unfollowed := true, recurses := true, named := ["unicode/utf8.first", "unicode/utf8.acceptRanges"], apart := false, laid := [("unicode/utf8.acceptRanges", laid_unicode_utf8_acceptRanges), ("unicode/utf8.first", laid_unicode_utf8_first)] }
def VtEachSaid : Prop := vtEachRow.holds Tryd.pinned (OpenSpec.ofChange vtEachSpec)

/-- ITS FALSE NEIGHBOUR: 'it returns false'. Refute it at one input. -/
def vtEachWrong : ChangeSpec := { name := "vtEach", fn := fun _ => fun
  | [d] => { results := [.lit (.bool false)], args := [d] }
  | _ => none }
def VtEachWrongFalsely : Prop := vtEachRow.holds Tryd.pinned (OpenSpec.ofChange vtEachWrong)

/-- 'beaconlaw3.VtFeeds': WHATEVER THE INPUT: true; the input reads as it did. -/
def vtFeedsSpec : ChangeSpec := { name := "vtFeeds", fn := fun _ => fun
  | [d] => { results := [.lit (.bool true)], args := [d] }
  | _ => none }
def vtFeedsRow : OpenClaim := { program := "ytcdpapgkgiifjaadoor", sum := "cc6bfddc18e9a9e631d9e652c2e4664180423477c07399b8b119ddf1623218df", func := "beacon/beaconlaw3.VtFeeds", spec := "vtFeeds", unfollowed := true, recurses := true, named := ["unicode/utf8.first", "unicode/utf8.acceptRanges"], apart := false, laid := [("unicode/utf8.acceptRanges", laid_unicode_utf8_acceptRanges), ("unicode/utf8.first", laid_unicode_utf8_first)] }
def VtFeedsSaid : Prop := vtFeedsRow.holds Tryd.pinned (OpenSpec.ofChange vtFeedsSpec)

/-- ITS FALSE NEIGHBOUR: 'it returns false'. Refute it at one input. -/
def vtFeedsWrong : ChangeSpec := { name := "vtFeeds", fn := fun _ => fun
  | [d] => { results := [.lit (.bool false)], args := [d] }
  | _ => none }
def VtFeedsWrongFalsely : Prop := vtFeedsRow.holds Tryd.pinned (OpenSpec.ofChange vtFeedsWrong)

/-- 'beaconlaw3.VtSplits': WHATEVER THE INPUT: true; the input reads as it did. -/
def vtSplitsSpec : ChangeSpec := { name := "vtSplits", fn := fun _ => fun
  | [d] => { results := [.lit (.bool true)], args := [d] }
  | _ => none }
def vtSplitsRow : OpenClaim := { program := "ytcdpapgkgiifjaadoor", sum := "cc6bfddc18e9a9e631d9e652c2e4664180423477c07399b8b119ddf1623218df", func := "beacon/beaconlaw3.VtSplits", spec := "vtSplits", unfollowed := true, recurses := true, named := ["unicode/utf8.first", "unicode/utf8.acceptRanges"], apart := false, laid := [("unicode/utf8.acceptRanges", laid_unicode_utf8_acceptRanges), ("unicode/utf8.first", laid_unicode_utf8_first)] }
def VtSplitsSaid : Prop := vtSplitsRow.holds Tryd.pinned (OpenSpec.ofChange vtSplitsSpec)

/-- ITS FALSE NEIGHBOUR: 'it returns false'. Refute it at one input. -/
def vtSplitsWrong : ChangeSpec := { name := "vtSplits", fn := fun _ => fun
  | [d] => { results := [.lit (.bool false)], args := [d] }
  | _ => none }
def VtSplitsWrongFalsely : Prop := vtSplitsRow.holds Tryd.pinned (OpenSpec.ofChange vtSplitsWrong)

/- THE SECOND FORM. 'bulk': how many values and letters a reading holds, each counted each time it is reached (what is shared counts as often as it is met; a slice's spare places count too). A statement '..UptoSaid' is the law's where the arguments, and the package variables that the reading takes, are together of bulk at most 1048576: NARROWER than '..Said'. Prove '..Said' where nothing that the law and all that it calls make is longer than what came in: it says more and counts as full. Else prove '..UptoSaid'. A law counts once. -/
mutual
def uptoBulk {H : Type} : DataW H → Nat
  | .lit (.string bytes) => bytes.length + 1
  | .lit _ => 1
  | .nil => 1
  | .ptr d => uptoBulk d + 1
  | .slice elems spare => uptoBulkAll elems + uptoBulkAll spare + 1
  | .agg parts => uptoBulkAll parts + 1
  | .iface _ d => uptoBulk d + 1
  | .map entries => uptoBulkEntries entries + 1
  | .held _ => 1
def uptoBulkAll {H : Type} : List (DataW H) → Nat
  | [] => 0
  | d :: r => uptoBulk d + uptoBulkAll r
def uptoBulkEntries {H : Type} : List (Lit × DataW H) → Nat
  | [] => 0
  | x :: r => uptoBulkEntry x + uptoBulkEntries r
def uptoBulkEntry {H : Type} : Lit × DataW H → Nat
  | (.string bytes, d) => bytes.length + uptoBulk d + 1
  | (_, d) => uptoBulk d + 1
 end
def uptoSmall : (H : Type) → List (DataW H) → Bool := fun _ ds => decide (uptoBulkAll ds ≤ 1048576)
def OpenSpec.upto (s : _root_.Go.ChangeSpec) : _root_.Go.OpenSpec := { _root_.Go.OpenSpec.ofChange s with cond := some uptoSmall }

/-- 'beaconlaw1.UtfAll', WHERE WHAT IT READS IS OF BULK AT MOST 1048576: true; the input reads as it did. -/
def utfAllUptoRow : OpenClaim := { program := "ytcdpapgkgiifjaadoor", sum := "cc6bfddc18e9a9e631d9e652c2e4664180423477c07399b8b119ddf1623218df", func := "beacon/beaconlaw1.UtfAll", spec := "utfAll", recurses := true, named := ["unicode/utf8.first", "unicode/utf8.acceptRanges"], apart := false, laid := [("unicode/utf8.acceptRanges", laid_unicode_utf8_acceptRanges), ("unicode/utf8.first", laid_unicode_utf8_first)], narrowed := true }
def UtfAllUptoSaid : Prop := utfAllUptoRow.holds Tryd.pinned (OpenSpec.upto utfAllSpec)

/-- 'beaconlaw1.UtfSplits', WHERE WHAT IT READS IS OF BULK AT MOST 1048576: true; the input reads as it did. -/
def utfSplitsUptoRow : OpenClaim := { program := "ytcdpapgkgiifjaadoor", sum := "cc6bfddc18e9a9e631d9e652c2e4664180423477c07399b8b119ddf1623218df", func := "beacon/beaconlaw1.UtfSplits", spec := "utfSplits", named := ["unicode/utf8.first", "unicode/utf8.acceptRanges"], apart := false, laid := [("unicode/utf8.acceptRanges", laid_unicode_utf8_acceptRanges), ("unicode/utf8.first", laid_unicode_utf8_first)], narrowed := true }
def UtfSplitsUptoSaid : Prop := utfSplitsUptoRow.holds Tryd.pinned (OpenSpec.upto utfSplitsSpec)

/-- 'beaconlaw1.UtfBytes', WHERE WHAT IT READS IS OF BULK AT MOST 1048576: true; the input reads as it did. -/
def utfBytesUptoRow : OpenClaim := { program := "ytcdpapgkgiifjaadoor", sum := "cc6bfddc18e9a9e631d9e652c2e4664180423477c07399b8b119ddf1623218df", func := "beacon/beaconlaw1.UtfBytes", spec := "utfBytes", recurses := true, named := ["unicode/utf8.first", "unicode/utf8.acceptRanges"], apart := false, laid := [("unicode/utf8.acceptRanges", laid_unicode_utf8_acceptRanges), ("unicode/utf8.first", laid_unicode_utf8_first)], narrowed := true }
def UtfBytesUptoSaid : Prop := utfBytesUptoRow.holds Tryd.pinned (OpenSpec.upto utfBytesSpec)

/-- 'beaconlaw3.VtEach', WHERE WHAT IT READS IS OF BULK AT MOST 1048576: true; the input reads as it did. -/
def vtEachUptoRow : OpenClaim := { program := "ytcdpapgkgiifjaadoor", sum := "cc6bfddc18e9a9e631d9e652c2e4664180423477c07399b8b119ddf1623218df", func := "beacon/beaconlaw3.VtEach", spec := "vtEach", unfollowed := true, recurses := true, named := ["unicode/utf8.first", "unicode/utf8.acceptRanges"], apart := false, laid := [("unicode/utf8.acceptRanges", laid_unicode_utf8_acceptRanges), ("unicode/utf8.first", laid_unicode_utf8_first)], narrowed := true }
def VtEachUptoSaid : Prop := vtEachUptoRow.holds Tryd.pinned (OpenSpec.upto vtEachSpec)

/-- 'beaconlaw3.VtFeeds', WHERE WHAT IT READS IS OF BULK AT MOST 1048576: true; the input reads as it did. -/
def vtFeedsUptoRow : OpenClaim := { program := "ytcdpapgkgiifjaadoor", sum := "cc6bfddc18e9a9e631d9e652c2e4664180423477c07399b8b119ddf1623218df", func := "beacon/beaconlaw3.VtFeeds", spec := "vtFeeds", unfollowed := true, recurses := true, named := ["unicode/utf8.first", "unicode/utf8.acceptRanges"], apart := false, laid := [("unicode/utf8.acceptRanges", laid_unicode_utf8_acceptRanges), ("unicode/utf8.first", laid_unicode_utf8_first)], narrowed := true }
def VtFeedsUptoSaid : Prop := vtFeedsUptoRow.holds Tryd.pinned (OpenSpec.upto vtFeedsSpec)

/-- 'beaconlaw3.VtSplits', WHERE WHAT IT READS IS OF BULK AT MOST 1048576: true; the input reads as it did. -/
def vtSplitsUptoRow : OpenClaim := { program := "ytcdpapgkgiifjaadoor", sum := "cc6bfddc18e9a9e631d9e652c2e4664180423477c07399b8b119ddf1623218df", func := "beacon/beaconlaw3.VtSplits", spec := "vtSplits", unfollowed := true, recurses := true, named := ["unicode/utf8.first", "unicode/utf8.acceptRanges"], apart := false, laid := [("unicode/utf8.acceptRanges", laid_unicode_utf8_acceptRanges), ("unicode/utf8.first", laid_unicode_utf8_first)], narrowed := true }
def VtSplitsUptoSaid : Prop := vtSplitsUptoRow.holds Tryd.pinned (OpenSpec.upto vtSplitsSpec)

end Rows
end Go.Proofs.YtcdpapgkgiifjaaDoor
