/-
  NARROWER THAN 'FOR EVERY INPUT', by the rows' own cells (each row's printed sentence says how): CausesFound: laid · GroupsHoldAll: laid · KitsCounted: laid · KitsAreCovered: laid · LinesBalanced: laid · BalanceIsLeast: laid · TopNeedsAreBalanced: laid · TopCyclesSetThePace: laid · BoardsJudged: laid · PositionsAreRows: laid.
  DERIVED. THE GIVEN ROWS OF THIS SEAT. 10 by the template 'for every input the law returns true; each argument reads behind the call as it read before'; 0 by the template 'total and deterministic' (their statements: YtaaokimiadfidaaGreatDoorTotals.lean).
  GIVEN WITH THE SEED: the statements are not yours to turn. If you find one false, say at which input.
  Laid BY PROGRAM, IN A SANDBOX (cutbox-rows.mjs): the forced cells as the released guide's own fill.sh prints them over the translation 24a5d7a51d2c8f8d… (all of the seat's roots in one cut). By AI agents, Wed Nov 11 2026. No macro, syntax, notation, axiom, sorry.
-/
import Derived.Test.YtaaokimiadfidaaGreatDoorChecked
import GoSem.PinnedTables
import GoSem.Claim
import GoSem.ClaimJoined
import GoSem.ClaimMapViews
import Derived.JoinedTies
import Derived.KernelRfl
namespace Go.Proofs.YtaaokimiadfidaaGreatDoor
/- THE CELL 'sum', in the pinned program and in every row, IS THE sha256 OF THE DUMP (.gsa) THAT YtaaokimiadfidaaGreatDoorProg.lean LOADS. Nothing in Lean hashes anything: it is a label: what it is worth is what the hold of that sum in a sandbox is worth. -/
noncomputable def Tryz.pinned : Pinned := { name := "ytaaokimiadfidaagreatdoor", sum := "24a5d7a51d2c8f8dce477c5c08c6c55bc0224311d9c91ff2486de06dbdb17566", checked := Tryz.checked }
namespace Rows
def none {H : Type} : Left H := { results := [], args := [] }

/- WHAT THE LISTED PACKAGE-LEVEL VARIABLES READ AS WHEN THE CALL BEGINS. Each datum BY PROGRAM (the guide's laid-datum.mjs) off the statement by which the dump's own 'gosem.cut.vars' lays the variable. In a bare row this is a premise. The card (YtaaokimiadfidaaGreatDoorCards.lean) ties it to the program's text. -/
def laid_math_bits_deBruijn32tab {H : Type} : DataW H := .agg [.lit (.int .u8 0), .lit (.int .u8 1), .lit (.int .u8 28), .lit (.int .u8 2), .lit (.int .u8 29), .lit (.int .u8 14), .lit (.int .u8 24), .lit (.int .u8 3), .lit (.int .u8 30), .lit (.int .u8 22), .lit (.int .u8 20), .lit (.int .u8 15), .lit (.int .u8 25), .lit (.int .u8 17), .lit (.int .u8 4), .lit (.int .u8 8), .lit (.int .u8 31), .lit (.int .u8 27), .lit (.int .u8 13), .lit (.int .u8 23), .lit (.int .u8 21), .lit (.int .u8 19), .lit (.int .u8 16), .lit (.int .u8 7), .lit (.int .u8 26), .lit (.int .u8 12), .lit (.int .u8 18), .lit (.int .u8 6), .lit (.int .u8 11), .lit (.int .u8 5), .lit (.int .u8 10), .lit (.int .u8 9)]
def laid_math_bits_deBruijn64tab {H : Type} : DataW H := .agg [.lit (.int .u8 0), .lit (.int .u8 1), .lit (.int .u8 56), .lit (.int .u8 2), .lit (.int .u8 57), .lit (.int .u8 49), .lit (.int .u8 28), .lit (.int .u8 3), .lit (.int .u8 61), .lit (.int .u8 58), .lit (.int .u8 42), .lit (.int .u8 50), .lit (.int .u8 38), .lit (.int .u8 29), .lit (.int .u8 17), .lit (.int .u8 4), .lit (.int .u8 62), .lit (.int .u8 47), .lit (.int .u8 59), .lit (.int .u8 36), .lit (.int .u8 45), .lit (.int .u8 43), .lit (.int .u8 51), .lit (.int .u8 22), .lit (.int .u8 53), .lit (.int .u8 39), .lit (.int .u8 33), .lit (.int .u8 30), .lit (.int .u8 24), .lit (.int .u8 18), .lit (.int .u8 12), .lit (.int .u8 5), .lit (.int .u8 63), .lit (.int .u8 55), .lit (.int .u8 48), .lit (.int .u8 27), .lit (.int .u8 60), .lit (.int .u8 41), .lit (.int .u8 37), .lit (.int .u8 16), .lit (.int .u8 46), .lit (.int .u8 35), .lit (.int .u8 44), .lit (.int .u8 21), .lit (.int .u8 52), .lit (.int .u8 32), .lit (.int .u8 23), .lit (.int .u8 11), .lit (.int .u8 54), .lit (.int .u8 26), .lit (.int .u8 40), .lit (.int .u8 15), .lit (.int .u8 34), .lit (.int .u8 20), .lit (.int .u8 31), .lit (.int .u8 10), .lit (.int .u8 25), .lit (.int .u8 14), .lit (.int .u8 19), .lit (.int .u8 9), .lit (.int .u8 13), .lit (.int .u8 8), .lit (.int .u8 7), .lit (.int .u8 6)]
def laid_internal_strconv_uint64pow10 {H : Type} : DataW H := .agg [.lit (.int .u64 1), .lit (.int .u64 10), .lit (.int .u64 100), .lit (.int .u64 1000), .lit (.int .u64 10000), .lit (.int .u64 100000), .lit (.int .u64 1000000), .lit (.int .u64 10000000), .lit (.int .u64 100000000), .lit (.int .u64 1000000000), .lit (.int .u64 10000000000), .lit (.int .u64 100000000000), .lit (.int .u64 1000000000000), .lit (.int .u64 10000000000000), .lit (.int .u64 100000000000000), .lit (.int .u64 1000000000000000), .lit (.int .u64 10000000000000000), .lit (.int .u64 100000000000000000), .lit (.int .u64 1000000000000000000), .lit (.int .u64 10000000000000000000)]
def laid_unicode_utf8_acceptRanges {H : Type} : DataW H := .agg [.agg [.lit (.int .u8 128), .lit (.int .u8 191)], .agg [.lit (.int .u8 160), .lit (.int .u8 191)], .agg [.lit (.int .u8 128), .lit (.int .u8 159)], .agg [.lit (.int .u8 144), .lit (.int .u8 191)], .agg [.lit (.int .u8 128), .lit (.int .u8 143)], .agg [.lit (.int .u8 0), .lit (.int .u8 0)], .agg [.lit (.int .u8 0), .lit (.int .u8 0)], .agg [.lit (.int .u8 0), .lit (.int .u8 0)], .agg [.lit (.int .u8 0), .lit (.int .u8 0)], .agg [.lit (.int .u8 0), .lit (.int .u8 0)], .agg [.lit (.int .u8 0), .lit (.int .u8 0)], .agg [.lit (.int .u8 0), .lit (.int .u8 0)], .agg [.lit (.int .u8 0), .lit (.int .u8 0)], .agg [.lit (.int .u8 0), .lit (.int .u8 0)], .agg [.lit (.int .u8 0), .lit (.int .u8 0)], .agg [.lit (.int .u8 0), .lit (.int .u8 0)]]
/-- One of Go's own tables, pinned by name: the form's constant. -/
def laid_unicode_utf8_first : DataW Unit := Go.Pinned.utf8First
def laid_strconv_ErrRange {H : Type} : DataW H := .iface "*errors.errorString" (.ptr (.agg [.lit (.string [118, 97, 108, 117, 101, 32, 111, 117, 116, 32, 111, 102, 32, 114, 97, 110, 103, 101])]))
def laid_strconv_ErrSyntax {H : Type} : DataW H := .iface "*errors.errorString" (.ptr (.agg [.lit (.string [105, 110, 118, 97, 108, 105, 100, 32, 115, 121, 110, 116, 97, 120])]))

/-- 'rflaw2.CausesFound': WHATEVER THE INPUT: true; the input reads as it did. -/
def causesFoundSpec : ChangeSpec := { name := "causesFound", fn := fun _ => fun
  | [d] => { results := [.lit (.bool true)], args := [d] }
  | _ => none }
def causesFoundRow : OpenClaim := { program := "ytaaokimiadfidaagreatdoor", sum := "24a5d7a51d2c8f8dce477c5c08c6c55bc0224311d9c91ff2486de06dbdb17566", func := "reelfeeder/rflaw2.CausesFound", spec := "causesFound", inPlace := ["internal/bytealg.IndexByteString", "internal/bytealg.IndexString", "internal/bytealg.abigen_runtime_cmpstring"], unfollowed := true, recurses := true, named := ["unicode/utf8.first", "unicode/utf8.acceptRanges", "internal/strconv.uint64pow10", "math/bits.deBruijn32tab", "math/bits.deBruijn64tab", "internal/bytealg.MaxLen"], plainKeys := false, apart := false, laid := [("math/bits.deBruijn32tab", laid_math_bits_deBruijn32tab), ("math/bits.deBruijn64tab", laid_math_bits_deBruijn64tab), ("internal/strconv.uint64pow10", laid_internal_strconv_uint64pow10), ("unicode/utf8.acceptRanges", laid_unicode_utf8_acceptRanges), ("unicode/utf8.first", laid_unicode_utf8_first)] }
def CausesFoundSaid : Prop := causesFoundRow.holds Tryz.pinned (OpenSpec.ofChange causesFoundSpec)

/-- ITS FALSE NEIGHBOUR: 'it returns false'. Refute it at one input. -/
def causesFoundWrong : ChangeSpec := { name := "causesFound", fn := fun _ => fun
  | [d] => { results := [.lit (.bool false)], args := [d] }
  | _ => none }
def CausesFoundWrongFalsely : Prop := causesFoundRow.holds Tryz.pinned (OpenSpec.ofChange causesFoundWrong)

/-- 'rfkeep2.GroupsHoldAll': WHATEVER THE INPUT: true; the input reads as it did. -/
def groupsHoldAllSpec : ChangeSpec := { name := "groupsHoldAll", fn := fun _ => fun
  | [d] => { results := [.lit (.bool true)], args := [d] }
  | _ => none }
def groupsHoldAllRow : OpenClaim := { program := "ytaaokimiadfidaagreatdoor", sum := "24a5d7a51d2c8f8dce477c5c08c6c55bc0224311d9c91ff2486de06dbdb17566", func := "reelfeeder/rfkeep2.GroupsHoldAll", spec := "groupsHoldAll", inPlace := ["internal/bytealg.IndexByteString", "internal/bytealg.IndexString", "internal/bytealg.abigen_runtime_cmpstring"], unfollowed := true, recurses := true, named := ["unicode/utf8.first", "unicode/utf8.acceptRanges", "internal/bytealg.MaxLen"], plainKeys := false, apart := false, laid := [("unicode/utf8.acceptRanges", laid_unicode_utf8_acceptRanges), ("unicode/utf8.first", laid_unicode_utf8_first)] }
def GroupsHoldAllSaid : Prop := groupsHoldAllRow.holds Tryz.pinned (OpenSpec.ofChange groupsHoldAllSpec)

/-- ITS FALSE NEIGHBOUR: 'it returns false'. Refute it at one input. -/
def groupsHoldAllWrong : ChangeSpec := { name := "groupsHoldAll", fn := fun _ => fun
  | [d] => { results := [.lit (.bool false)], args := [d] }
  | _ => none }
def GroupsHoldAllWrongFalsely : Prop := groupsHoldAllRow.holds Tryz.pinned (OpenSpec.ofChange groupsHoldAllWrong)

/-- 'rflaw2.KitsCounted': WHATEVER THE INPUT: true; the input reads as it did. -/
def kitsCountedSpec : ChangeSpec := { name := "kitsCounted", fn := fun _ => fun
  | [d] => { results := [.lit (.bool true)], args := [d] }
  | _ => none }
def kitsCountedRow : OpenClaim := { program := "ytaaokimiadfidaagreatdoor", sum := "24a5d7a51d2c8f8dce477c5c08c6c55bc0224311d9c91ff2486de06dbdb17566", func := "reelfeeder/rflaw2.KitsCounted", spec := "kitsCounted", inPlace := ["internal/bytealg.IndexByteString", "internal/bytealg.IndexString", "internal/bytealg.abigen_runtime_cmpstring"], unfollowed := true, recurses := true, named := ["unicode/utf8.first", "unicode/utf8.acceptRanges", "internal/bytealg.MaxLen"], plainKeys := false, apart := false, laid := [("unicode/utf8.acceptRanges", laid_unicode_utf8_acceptRanges), ("unicode/utf8.first", laid_unicode_utf8_first)] }
def KitsCountedSaid : Prop := kitsCountedRow.holds Tryz.pinned (OpenSpec.ofChange kitsCountedSpec)

/-- ITS FALSE NEIGHBOUR: 'it returns false'. Refute it at one input. -/
def kitsCountedWrong : ChangeSpec := { name := "kitsCounted", fn := fun _ => fun
  | [d] => { results := [.lit (.bool false)], args := [d] }
  | _ => none }
def KitsCountedWrongFalsely : Prop := kitsCountedRow.holds Tryz.pinned (OpenSpec.ofChange kitsCountedWrong)

/-- 'rfkeep2.KitsAreCovered': WHATEVER THE INPUT: true; the input reads as it did. -/
def kitsAreCoveredSpec : ChangeSpec := { name := "kitsAreCovered", fn := fun _ => fun
  | [d] => { results := [.lit (.bool true)], args := [d] }
  | _ => none }
def kitsAreCoveredRow : OpenClaim := { program := "ytaaokimiadfidaagreatdoor", sum := "24a5d7a51d2c8f8dce477c5c08c6c55bc0224311d9c91ff2486de06dbdb17566", func := "reelfeeder/rfkeep2.KitsAreCovered", spec := "kitsAreCovered", inPlace := ["internal/bytealg.IndexByteString", "internal/bytealg.IndexString", "internal/bytealg.abigen_runtime_cmpstring"], unfollowed := true, recurses := true, named := ["unicode/utf8.first", "unicode/utf8.acceptRanges", "internal/bytealg.MaxLen"], plainKeys := false, apart := false, laid := [("unicode/utf8.acceptRanges", laid_unicode_utf8_acceptRanges), ("unicode/utf8.first", laid_unicode_utf8_first)] }
def KitsAreCoveredSaid : Prop := kitsAreCoveredRow.holds Tryz.pinned (OpenSpec.ofChange kitsAreCoveredSpec)

/-- ITS FALSE NEIGHBOUR: 'it returns false'. Refute it at one input. -/
def kitsAreCoveredWrong : ChangeSpec := { name := "kitsAreCovered", fn := fun _ => fun
  | [d] => { results := [.lit (.bool false)], args := [d] }
  | _ => none }
def KitsAreCoveredWrongFalsely : Prop := kitsAreCoveredRow.holds Tryz.pinned (OpenSpec.ofChange kitsAreCoveredWrong)

/-- 'rflaw2.LinesBalanced': WHATEVER THE INPUT: true; the input reads as it did. -/
def linesBalancedSpec : ChangeSpec := { name := "linesBalanced", fn := fun _ => fun
  | [d] => { results := [.lit (.bool true)], args := [d] }
  | _ => none }
def linesBalancedRow : OpenClaim := { program := "ytaaokimiadfidaagreatdoor", sum := "24a5d7a51d2c8f8dce477c5c08c6c55bc0224311d9c91ff2486de06dbdb17566", func := "reelfeeder/rflaw2.LinesBalanced", spec := "linesBalanced", inPlace := ["internal/bytealg.IndexByteString", "internal/bytealg.IndexString", "internal/bytealg.abigen_runtime_cmpstring"], unfollowed := true, recurses := true, named := ["unicode/utf8.first", "unicode/utf8.acceptRanges", "internal/bytealg.MaxLen"], plainKeys := false, apart := false, laid := [("unicode/utf8.acceptRanges", laid_unicode_utf8_acceptRanges), ("unicode/utf8.first", laid_unicode_utf8_first)] }
def LinesBalancedSaid : Prop := linesBalancedRow.holds Tryz.pinned (OpenSpec.ofChange linesBalancedSpec)

/-- ITS FALSE NEIGHBOUR: 'it returns false'. Refute it at one input. -/
def linesBalancedWrong : ChangeSpec := { name := "linesBalanced", fn := fun _ => fun
  | [d] => { results := [.lit (.bool false)], args := [d] }
  | _ => none }
def LinesBalancedWrongFalsely : Prop := linesBalancedRow.holds Tryz.pinned (OpenSpec.ofChange linesBalancedWrong)

/-- 'rfkeep2.BalanceIsLeast': WHATEVER THE INPUT: true; the input reads as it did. -/
def balanceIsLeastSpec : ChangeSpec := { name := "balanceIsLeast", fn := fun _ => fun
  | [d] => { results := [.lit (.bool true)], args := [d] }
  | _ => none }
def balanceIsLeastRow : OpenClaim := { program := "ytaaokimiadfidaagreatdoor", sum := "24a5d7a51d2c8f8dce477c5c08c6c55bc0224311d9c91ff2486de06dbdb17566", func := "reelfeeder/rfkeep2.BalanceIsLeast", spec := "balanceIsLeast", inPlace := ["internal/bytealg.IndexByteString", "internal/bytealg.IndexString", "internal/bytealg.abigen_runtime_cmpstring"], unfollowed := true, recurses := true, named := ["unicode/utf8.first", "unicode/utf8.acceptRanges", "internal/bytealg.MaxLen"], plainKeys := false, apart := false, laid := [("unicode/utf8.acceptRanges", laid_unicode_utf8_acceptRanges), ("unicode/utf8.first", laid_unicode_utf8_first)] }
def BalanceIsLeastSaid : Prop := balanceIsLeastRow.holds Tryz.pinned (OpenSpec.ofChange balanceIsLeastSpec)

/-- ITS FALSE NEIGHBOUR: 'it returns false'. Refute it at one input. -/
def balanceIsLeastWrong : ChangeSpec := { name := "balanceIsLeast", fn := fun _ => fun
  | [d] => { results := [.lit (.bool false)], args := [d] }
  | _ => none }
def BalanceIsLeastWrongFalsely : Prop := balanceIsLeastRow.holds Tryz.pinned (OpenSpec.ofChange balanceIsLeastWrong)

/-- 'rftop.TopNeedsAreBalanced': WHATEVER THE INPUT: true; the input reads as it did. -/
def topNeedsAreBalancedSpec : ChangeSpec := { name := "topNeedsAreBalanced", fn := fun _ => fun
  | [d] => { results := [.lit (.bool true)], args := [d] }
  | _ => none }
def topNeedsAreBalancedRow : OpenClaim := { program := "ytaaokimiadfidaagreatdoor", sum := "24a5d7a51d2c8f8dce477c5c08c6c55bc0224311d9c91ff2486de06dbdb17566", func := "reelfeeder/rftop.TopNeedsAreBalanced", spec := "topNeedsAreBalanced", inPlace := ["internal/bytealg.IndexByteString", "internal/bytealg.IndexString", "internal/bytealg.abigen_runtime_cmpstring"], unfollowed := true, recurses := true, named := ["unicode/utf8.first", "unicode/utf8.acceptRanges", "internal/bytealg.MaxLen"], plainKeys := false, apart := false, laid := [("unicode/utf8.acceptRanges", laid_unicode_utf8_acceptRanges), ("unicode/utf8.first", laid_unicode_utf8_first)] }
def TopNeedsAreBalancedSaid : Prop := topNeedsAreBalancedRow.holds Tryz.pinned (OpenSpec.ofChange topNeedsAreBalancedSpec)

/-- ITS FALSE NEIGHBOUR: 'it returns false'. Refute it at one input. -/
def topNeedsAreBalancedWrong : ChangeSpec := { name := "topNeedsAreBalanced", fn := fun _ => fun
  | [d] => { results := [.lit (.bool false)], args := [d] }
  | _ => none }
def TopNeedsAreBalancedWrongFalsely : Prop := topNeedsAreBalancedRow.holds Tryz.pinned (OpenSpec.ofChange topNeedsAreBalancedWrong)

/-- 'rftop.TopCyclesSetThePace': WHATEVER THE INPUT: true; the input reads as it did. -/
def topCyclesSetThePaceSpec : ChangeSpec := { name := "topCyclesSetThePace", fn := fun _ => fun
  | [d] => { results := [.lit (.bool true)], args := [d] }
  | _ => none }
def topCyclesSetThePaceRow : OpenClaim := { program := "ytaaokimiadfidaagreatdoor", sum := "24a5d7a51d2c8f8dce477c5c08c6c55bc0224311d9c91ff2486de06dbdb17566", func := "reelfeeder/rftop.TopCyclesSetThePace", spec := "topCyclesSetThePace", inPlace := ["internal/bytealg.IndexByteString", "internal/bytealg.IndexString", "internal/bytealg.abigen_runtime_cmpstring"], unfollowed := true, recurses := true, named := ["unicode/utf8.first", "unicode/utf8.acceptRanges", "internal/bytealg.MaxLen"], plainKeys := false, apart := false, laid := [("unicode/utf8.acceptRanges", laid_unicode_utf8_acceptRanges), ("unicode/utf8.first", laid_unicode_utf8_first)] }
def TopCyclesSetThePaceSaid : Prop := topCyclesSetThePaceRow.holds Tryz.pinned (OpenSpec.ofChange topCyclesSetThePaceSpec)

/-- ITS FALSE NEIGHBOUR: 'it returns false'. Refute it at one input. -/
def topCyclesSetThePaceWrong : ChangeSpec := { name := "topCyclesSetThePace", fn := fun _ => fun
  | [d] => { results := [.lit (.bool false)], args := [d] }
  | _ => none }
def TopCyclesSetThePaceWrongFalsely : Prop := topCyclesSetThePaceRow.holds Tryz.pinned (OpenSpec.ofChange topCyclesSetThePaceWrong)

/-- 'rflaw2.BoardsJudged': WHATEVER THE INPUT: true; the input reads as it did. -/
def boardsJudgedSpec : ChangeSpec := { name := "boardsJudged", fn := fun _ => fun
  | [d] => { results := [.lit (.bool true)], args := [d] }
  | _ => none }
def boardsJudgedRow : OpenClaim := { program := "ytaaokimiadfidaagreatdoor", sum := "24a5d7a51d2c8f8dce477c5c08c6c55bc0224311d9c91ff2486de06dbdb17566", func := "reelfeeder/rflaw2.BoardsJudged", spec := "boardsJudged", inPlace := ["internal/bytealg.IndexByteString", "internal/bytealg.IndexString", "internal/bytealg.abigen_runtime_cmpstring"], unfollowed := true, recurses := true, named := ["unicode/utf8.first", "unicode/utf8.acceptRanges", "internal/strconv.uint64pow10", "math/bits.deBruijn32tab", "math/bits.deBruijn64tab", "internal/bytealg.MaxLen"], plainKeys := false, apart := false, laid := [("math/bits.deBruijn32tab", laid_math_bits_deBruijn32tab), ("math/bits.deBruijn64tab", laid_math_bits_deBruijn64tab), ("internal/strconv.uint64pow10", laid_internal_strconv_uint64pow10), ("unicode/utf8.acceptRanges", laid_unicode_utf8_acceptRanges), ("unicode/utf8.first", laid_unicode_utf8_first)] }
def BoardsJudgedSaid : Prop := boardsJudgedRow.holds Tryz.pinned (OpenSpec.ofChange boardsJudgedSpec)

/-- ITS FALSE NEIGHBOUR: 'it returns false'. Refute it at one input. -/
def boardsJudgedWrong : ChangeSpec := { name := "boardsJudged", fn := fun _ => fun
  | [d] => { results := [.lit (.bool false)], args := [d] }
  | _ => none }
def BoardsJudgedWrongFalsely : Prop := boardsJudgedRow.holds Tryz.pinned (OpenSpec.ofChange boardsJudgedWrong)

/-- 'rfkeep2.PositionsAreRows': WHATEVER THE INPUT: true; the input reads as it did. -/
def positionsAreRowsSpec : ChangeSpec := { name := "positionsAreRows", fn := fun _ => fun
  | [d] => { results := [.lit (.bool true)], args := [d] }
  | _ => none }
def positionsAreRowsRow : OpenClaim := { program := "ytaaokimiadfidaagreatdoor", sum := "24a5d7a51d2c8f8dce477c5c08c6c55bc0224311d9c91ff2486de06dbdb17566", func := "reelfeeder/rfkeep2.PositionsAreRows", spec := "positionsAreRows", inPlace := ["internal/bytealg.IndexByteString", "internal/bytealg.abigen_runtime_cmpstring", "internal/bytealg.IndexString"], unfollowed := true, recurses := true, named := ["unicode/utf8.first", "unicode/utf8.acceptRanges", "internal/strconv.uint64pow10", "math/bits.deBruijn32tab", "math/bits.deBruijn64tab", "strconv.ErrSyntax", "strconv.ErrRange", "internal/bytealg.MaxLen"], plainKeys := false, apart := false, laid := [("math/bits.deBruijn32tab", laid_math_bits_deBruijn32tab), ("math/bits.deBruijn64tab", laid_math_bits_deBruijn64tab), ("internal/strconv.uint64pow10", laid_internal_strconv_uint64pow10), ("unicode/utf8.acceptRanges", laid_unicode_utf8_acceptRanges), ("strconv.ErrRange", laid_strconv_ErrRange), ("strconv.ErrSyntax", laid_strconv_ErrSyntax), ("unicode/utf8.first", laid_unicode_utf8_first)] }
def PositionsAreRowsSaid : Prop := positionsAreRowsRow.holds Tryz.pinned (OpenSpec.ofChange positionsAreRowsSpec)

/-- ITS FALSE NEIGHBOUR: 'it returns false'. Refute it at one input. -/
def positionsAreRowsWrong : ChangeSpec := { name := "positionsAreRows", fn := fun _ => fun
  | [d] => { results := [.lit (.bool false)], args := [d] }
  | _ => none }
def PositionsAreRowsWrongFalsely : Prop := positionsAreRowsRow.holds Tryz.pinned (OpenSpec.ofChange positionsAreRowsWrong)

/- THE SECOND FORM. 'bulk': how many values and letters a reading holds, each counted each time it is reached (what is shared counts as often as it is met; a slice's spare places count too). A statement '..UptoSaid' is the law's where the arguments, and the package variables that the reading takes, are together of bulk at most 1048576: NARROWER than '..Said'. Prove '..Said' where nothing that the law and all that it calls make is longer than what came in: it says more and counts as full. Else prove '..UptoSaid'. A law counts once. -/
mutual
def uptoBulk {H : Type} : DataW H → Nat
  | .lit (.string bytes) => bytes.length + 1
  | .lit _ => 1
  | .nil => 1
  | .ptr d => uptoBulk d + 1
  | .slice elems spare => uptoBulkAll elems + uptoBulkAll spare + 1
  | .agg parts => uptoBulkAll parts + 1
  | .iface _ d => uptoBulk d + 1
  | .map entries => uptoBulkEntries entries + 1
  | .held _ => 1
def uptoBulkAll {H : Type} : List (DataW H) → Nat
  | [] => 0
  | d :: r => uptoBulk d + uptoBulkAll r
def uptoBulkEntries {H : Type} : List (Lit × DataW H) → Nat
  | [] => 0
  | x :: r => uptoBulkEntry x + uptoBulkEntries r
def uptoBulkEntry {H : Type} : Lit × DataW H → Nat
  | (.string bytes, d) => bytes.length + uptoBulk d + 1
  | (_, d) => uptoBulk d + 1
 end
def uptoSmall : (H : Type) → List (DataW H) → Bool := fun _ ds => decide (uptoBulkAll ds ≤ 1048576)
def OpenSpec.upto (s : _root_.Go.ChangeSpec) : _root_.Go.OpenSpec := { _root_.Go.OpenSpec.ofChange s with cond := some uptoSmall }

/-- 'rflaw2.CausesFound', WHERE WHAT IT READS IS OF BULK AT MOST 1048576: true; the input reads as it did. -/
def causesFoundUptoRow : OpenClaim := { program := "ytaaokimiadfidaagreatdoor", sum := "24a5d7a51d2c8f8dce477c5c08c6c55bc0224311d9c91ff2486de06dbdb17566", func := "reelfeeder/rflaw2.CausesFound", spec := "causesFound", inPlace := ["internal/bytealg.IndexByteString", "internal/bytealg.IndexString", "internal/bytealg.abigen_runtime_cmpstring"], unfollowed := true, recurses := true, named := ["unicode/utf8.first", "unicode/utf8.acceptRanges", "internal/strconv.uint64pow10", "math/bits.deBruijn32tab", "math/bits.deBruijn64tab", "internal/bytealg.MaxLen"], plainKeys := false, apart := false, laid := [("math/bits.deBruijn32tab", laid_math_bits_deBruijn32tab), ("math/bits.deBruijn64tab", laid_math_bits_deBruijn64tab), ("internal/strconv.uint64pow10", laid_internal_strconv_uint64pow10), ("unicode/utf8.acceptRanges", laid_unicode_utf8_acceptRanges), ("unicode/utf8.first", laid_unicode_utf8_first)], narrowed := true }
def CausesFoundUptoSaid : Prop := causesFoundUptoRow.holds Tryz.pinned (OpenSpec.upto causesFoundSpec)

/-- 'rfkeep2.GroupsHoldAll', WHERE WHAT IT READS IS OF BULK AT MOST 1048576: true; the input reads as it did. -/
def groupsHoldAllUptoRow : OpenClaim := { program := "ytaaokimiadfidaagreatdoor", sum := "24a5d7a51d2c8f8dce477c5c08c6c55bc0224311d9c91ff2486de06dbdb17566", func := "reelfeeder/rfkeep2.GroupsHoldAll", spec := "groupsHoldAll", inPlace := ["internal/bytealg.IndexByteString", "internal/bytealg.IndexString", "internal/bytealg.abigen_runtime_cmpstring"], unfollowed := true, recurses := true, named := ["unicode/utf8.first", "unicode/utf8.acceptRanges", "internal/bytealg.MaxLen"], plainKeys := false, apart := false, laid := [("unicode/utf8.acceptRanges", laid_unicode_utf8_acceptRanges), ("unicode/utf8.first", laid_unicode_utf8_first)], narrowed := true }
def GroupsHoldAllUptoSaid : Prop := groupsHoldAllUptoRow.holds Tryz.pinned (OpenSpec.upto groupsHoldAllSpec)

/-- 'rflaw2.KitsCounted', WHERE WHAT IT READS IS OF BULK AT MOST 1048576: true; the input reads as it did. -/
def kitsCountedUptoRow : OpenClaim := { program := "ytaaokimiadfidaagreatdoor", sum := "24a5d7a51d2c8f8dce477c5c08c6c55bc0224311d9c91ff2486de06dbdb17566", func := "reelfeeder/rflaw2.KitsCounted", spec := "kitsCounted", inPlace := ["internal/bytealg.IndexByteString", "internal/bytealg.IndexString", "internal/bytealg.abigen_runtime_cmpstring"], unfollowed := true, recurses := true, named := ["unicode/utf8.first", "unicode/utf8.acceptRanges", "internal/bytealg.MaxLen"], plainKeys := false, apart := false, laid := [("unicode/utf8.acceptRanges", laid_unicode_utf8_acceptRanges), ("unicode/utf8.first", laid_unicode_utf8_first)], narrowed := true }
def KitsCountedUptoSaid : Prop := kitsCountedUptoRow.holds Tryz.pinned (OpenSpec.upto kitsCountedSpec)

/-- 'rfkeep2.KitsAreCovered', WHERE WHAT IT READS IS OF BULK AT MOST 1048576: true; the input reads as it did. -/
def kitsAreCoveredUptoRow : OpenClaim := { program := "ytaaokimiadfidaagreatdoor", sum := "24a5d7a51d2c8f8dce477c5c08c6c55bc0224311d9c91ff2486de06dbdb17566", func := "reelfeeder/rfkeep2.KitsAreCovered", spec := "kitsAreCovered", inPlace := ["internal/bytealg.IndexByteString", "internal/bytealg.IndexString", "internal/bytealg.abigen_runtime_cmpstring"], unfollowed := true, recurses := true, named := ["unicode/utf8.first", "unicode/utf8.acceptRanges", "internal/bytealg.MaxLen"], plainKeys := false, apart := false, laid := [("unicode/utf8.acceptRanges", laid_unicode_utf8_acceptRanges), ("unicode/utf8.first", laid_unicode_utf8_first)], narrowed := true }
def KitsAreCoveredUptoSaid : Prop := kitsAreCoveredUptoRow.holds Tryz.pinned (OpenSpec.upto kitsAreCoveredSpec)

/-- 'rflaw2.LinesBalanced', WHERE WHAT IT READS IS OF BULK AT MOST 1048576: true; the input reads as it did. -/
def linesBalancedUptoRow : OpenClaim := { program := "ytaaokimiadfidaagreatdoor", sum := "24a5d7a51d2c8f8dce477c5c08c6c55bc0224311d9c91ff2486de06dbdb17566", func := "reelfeeder/rflaw2.LinesBalanced", spec := "linesBalanced", inPlace := ["internal/bytealg.IndexByteString", "internal/bytealg.IndexString", "internal/bytealg.abigen_runtime_cmpstring"], unfollowed := true, recurses := true, named := ["unicode/utf8.first", "unicode/utf8.acceptRanges", "internal/bytealg.MaxLen"], plainKeys := false, apart := false, laid := [("unicode/utf8.acceptRanges", laid_unicode_utf8_acceptRanges), ("unicode/utf8.first", laid_unicode_utf8_first)], narrowed := true }
def LinesBalancedUptoSaid : Prop := linesBalancedUptoRow.holds Tryz.pinned (OpenSpec.upto linesBalancedSpec)

/-- 'rfkeep2.BalanceIsLeast', WHERE WHAT IT READS IS OF BULK AT MOST 1048576: true; the input reads as it did. -/
def balanceIsLeastUptoRow : OpenClaim := { program := "ytaaokimiadfidaagreatdoor", sum := "24a5d7a51d2c8f8dce477c5c08c6c55bc0224311d9c91ff2486de06dbdb17566", func := "reelfeeder/rfkeep2.BalanceIsLeast", spec := "balanceIsLeast", inPlace := ["internal/bytealg.IndexByteString", "internal/bytealg.IndexString", "internal/bytealg.abigen_runtime_cmpstring"], unfollowed := true, recurses := true, named := ["unicode/utf8.first", "unicode/utf8.acceptRanges", "internal/bytealg.MaxLen"], plainKeys := false, apart := false, laid := [("unicode/utf8.acceptRanges", laid_unicode_utf8_acceptRanges), ("unicode/utf8.first", laid_unicode_utf8_first)], narrowed := true }
def BalanceIsLeastUptoSaid : Prop := balanceIsLeastUptoRow.holds Tryz.pinned (OpenSpec.upto balanceIsLeastSpec)

/-- 'rftop.TopNeedsAreBalanced', WHERE WHAT IT READS IS OF BULK AT MOST 1048576: true; the input reads as it did. -/
def topNeedsAreBalancedUptoRow : OpenClaim := { program := "ytaaokimiadfidaagreatdoor", sum := "24a5d7a51d2c8f8dce477c5c08c6c55bc0224311d9c91ff2486de06dbdb17566", func := "reelfeeder/rftop.TopNeedsAreBalanced", spec := "topNeedsAreBalanced", inPlace := ["internal/bytealg.IndexByteString", "internal/bytealg.IndexString", "internal/bytealg.abigen_runtime_cmpstring"], unfollowed := true, recurses := true, named := ["unicode/utf8.first", "unicode/utf8.acceptRanges", "internal/bytealg.MaxLen"], plainKeys := false, apart := false, laid := [("unicode/utf8.acceptRanges", laid_unicode_utf8_acceptRanges), ("unicode/utf8.first", laid_unicode_utf8_first)], narrowed := true }
def TopNeedsAreBalancedUptoSaid : Prop := topNeedsAreBalancedUptoRow.holds Tryz.pinned (OpenSpec.upto topNeedsAreBalancedSpec)

/-- 'rftop.TopCyclesSetThePace', WHERE WHAT IT READS IS OF BULK AT MOST 1048576: true; the input reads as it did. -/
def topCyclesSetThePaceUptoRow : OpenClaim := { program := "ytaaokimiadfidaagreatdoor", sum := "24a5d7a51d2c8f8dce477c5c08c6c55bc0224311d9c91ff2486de06dbdb17566", func := "reelfeeder/rftop.TopCyclesSetThePace", spec := "topCyclesSetThePace", inPlace := ["internal/bytealg.IndexByteString", "internal/bytealg.IndexString", "internal/bytealg.abigen_runtime_cmpstring"], unfollowed := true, recurses := true, named := ["unicode/utf8.first", "unicode/utf8.acceptRanges", "internal/bytealg.MaxLen"], plainKeys := false, apart := false, laid := [("unicode/utf8.acceptRanges", laid_unicode_utf8_acceptRanges), ("unicode/utf8.first", laid_unicode_utf8_first)], narrowed := true }
def TopCyclesSetThePaceUptoSaid : Prop := topCyclesSetThePaceUptoRow.holds Tryz.pinned (OpenSpec.upto topCyclesSetThePaceSpec)

/-- 'rflaw2.BoardsJudged', WHERE WHAT IT READS IS OF BULK AT MOST 1048576: true; the input reads as it did. -/
def boardsJudgedUptoRow : OpenClaim := { program := "ytaaokimiadfidaagreatdoor", sum := "24a5d7a51d2c8f8dce477c5c08c6c55bc0224311d9c91ff2486de06dbdb17566", func := "reelfeeder/rflaw2.BoardsJudged", spec := "boardsJudged", inPlace := ["internal/bytealg.IndexByteString", "internal/bytealg.IndexString", "internal/bytealg.abigen_runtime_cmpstring"], unfollowed := true, recurses := true, named := ["unicode/utf8.first", "unicode/utf8.acceptRanges", "internal/strconv.uint64pow10", "math/bits.deBruijn32tab", "math/bits.deBruijn64tab", "internal/bytealg.MaxLen"], plainKeys := false, apart := false, laid := [("math/bits.deBruijn32tab", laid_math_bits_deBruijn32tab), ("math/bits.deBruijn64tab", laid_math_bits_deBruijn64tab), ("internal/strconv.uint64pow10", laid_internal_strconv_uint64pow10), ("unicode/utf8.acceptRanges", laid_unicode_utf8_acceptRanges), ("unicode/utf8.first", laid_unicode_utf8_first)], narrowed := true }
def BoardsJudgedUptoSaid : Prop := boardsJudgedUptoRow.holds Tryz.pinned (OpenSpec.upto boardsJudgedSpec)

/-- 'rfkeep2.PositionsAreRows', WHERE WHAT IT READS IS OF BULK AT MOST 1048576: true; the input reads as it did. -/
def positionsAreRowsUptoRow : OpenClaim := { program := "ytaaokimiadfidaagreatdoor", sum := "24a5d7a51d2c8f8dce477c5c08c6c55bc0224311d9c91ff2486de06dbdb17566", func := "reelfeeder/rfkeep2.PositionsAreRows", spec := "positionsAreRows", inPlace := ["internal/bytealg.IndexByteString", "internal/bytealg.abigen_runtime_cmpstring", "internal/bytealg.IndexString"], unfollowed := true, recurses := true, named := ["unicode/utf8.first", "unicode/utf8.acceptRanges", "internal/strconv.uint64pow10", "math/bits.deBruijn32tab", "math/bits.deBruijn64tab", "strconv.ErrSyntax", "strconv.ErrRange", "internal/bytealg.MaxLen"], plainKeys := false, apart := false, laid := [("math/bits.deBruijn32tab", laid_math_bits_deBruijn32tab), ("math/bits.deBruijn64tab", laid_math_bits_deBruijn64tab), ("internal/strconv.uint64pow10", laid_internal_strconv_uint64pow10), ("unicode/utf8.acceptRanges", laid_unicode_utf8_acceptRanges), ("strconv.ErrRange", laid_strconv_ErrRange), ("strconv.ErrSyntax", laid_strconv_ErrSyntax), ("unicode/utf8.first", laid_unicode_utf8_first)], narrowed := true }
def PositionsAreRowsUptoSaid : Prop := positionsAreRowsUptoRow.holds Tryz.pinned (OpenSpec.upto positionsAreRowsSpec)

end Rows
end Go.Proofs.YtaaokimiadfidaaGreatDoor
