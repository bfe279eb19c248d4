/-
  NARROWER THAN 'FOR EVERY INPUT', by the rows' own cells (each row's printed sentence says how): SchedulesFound: laid · SchedulesTimed: laid · OrdersPromised: laid · BoardsLeaveInOrder: laid · TopSetupsAreChangeovers: laid · EnoughIsEnough: laid · GroupsHoldAll: laid · TotalsAreLeast: laid · PromisesHold: laid · NextHasAll: laid · SchedulesAreLeast: laid.
  DERIVED. THE GIVEN ROWS OF THIS SEAT. 11 by the template 'for every input the law returns true; each argument reads behind the call as it read before'; 0 by the template 'total and deterministic' (their statements: YtplphabekhaoaaaGreatDoorTotals.lean).
  GIVEN WITH THE SEED: the statements are not yours to turn. If you find one false, say at which input.
  Laid BY PROGRAM, IN A SANDBOX (cutbox-rows.mjs): the forced cells as the released guide's own fill.sh prints them over the translation 718e8d0cad3a08f4… (all of the seat's roots in one cut). By AI agents, Wed Nov 11 2026. No macro, syntax, notation, axiom, sorry.
-/
import Derived.Test.YtplphabekhaoaaaGreatDoorChecked
import GoSem.PinnedTables
import GoSem.Claim
import GoSem.ClaimJoined
import GoSem.ClaimMapViews
import Derived.JoinedTies
import Derived.KernelRfl
namespace Go.Proofs.YtplphabekhaoaaaGreatDoor
/- THE CELL 'sum', in the pinned program and in every row, IS THE sha256 OF THE DUMP (.gsa) THAT YtplphabekhaoaaaGreatDoorProg.lean LOADS. Nothing in Lean hashes anything: it is a label: what it is worth is what the hold of that sum in a sandbox is worth. -/
noncomputable def Tryz.pinned : Pinned := { name := "ytplphabekhaoaaagreatdoor", sum := "718e8d0cad3a08f41d105aa1e7de6782a1ea7df8a054e64464a26bd93383cb15", checked := Tryz.checked }
namespace Rows
def none {H : Type} : Left H := { results := [], args := [] }

/- WHAT THE LISTED PACKAGE-LEVEL VARIABLES READ AS WHEN THE CALL BEGINS. Each datum BY PROGRAM (the guide's laid-datum.mjs) off the statement by which the dump's own 'gosem.cut.vars' lays the variable. In a bare row this is a premise. The card (YtplphabekhaoaaaGreatDoorCards.lean) ties it to the program's text. -/
def laid_unicode_utf8_acceptRanges {H : Type} : DataW H := .agg [.agg [.lit (.int .u8 128), .lit (.int .u8 191)], .agg [.lit (.int .u8 160), .lit (.int .u8 191)], .agg [.lit (.int .u8 128), .lit (.int .u8 159)], .agg [.lit (.int .u8 144), .lit (.int .u8 191)], .agg [.lit (.int .u8 128), .lit (.int .u8 143)], .agg [.lit (.int .u8 0), .lit (.int .u8 0)], .agg [.lit (.int .u8 0), .lit (.int .u8 0)], .agg [.lit (.int .u8 0), .lit (.int .u8 0)], .agg [.lit (.int .u8 0), .lit (.int .u8 0)], .agg [.lit (.int .u8 0), .lit (.int .u8 0)], .agg [.lit (.int .u8 0), .lit (.int .u8 0)], .agg [.lit (.int .u8 0), .lit (.int .u8 0)], .agg [.lit (.int .u8 0), .lit (.int .u8 0)], .agg [.lit (.int .u8 0), .lit (.int .u8 0)], .agg [.lit (.int .u8 0), .lit (.int .u8 0)], .agg [.lit (.int .u8 0), .lit (.int .u8 0)]]
/-- One of Go's own tables, pinned by name: the form's constant. -/
def laid_unicode_utf8_first : DataW Unit := Go.Pinned.utf8First
def laid_math_bits_deBruijn32tab {H : Type} : DataW H := .agg [.lit (.int .u8 0), .lit (.int .u8 1), .lit (.int .u8 28), .lit (.int .u8 2), .lit (.int .u8 29), .lit (.int .u8 14), .lit (.int .u8 24), .lit (.int .u8 3), .lit (.int .u8 30), .lit (.int .u8 22), .lit (.int .u8 20), .lit (.int .u8 15), .lit (.int .u8 25), .lit (.int .u8 17), .lit (.int .u8 4), .lit (.int .u8 8), .lit (.int .u8 31), .lit (.int .u8 27), .lit (.int .u8 13), .lit (.int .u8 23), .lit (.int .u8 21), .lit (.int .u8 19), .lit (.int .u8 16), .lit (.int .u8 7), .lit (.int .u8 26), .lit (.int .u8 12), .lit (.int .u8 18), .lit (.int .u8 6), .lit (.int .u8 11), .lit (.int .u8 5), .lit (.int .u8 10), .lit (.int .u8 9)]
def laid_math_bits_deBruijn64tab {H : Type} : DataW H := .agg [.lit (.int .u8 0), .lit (.int .u8 1), .lit (.int .u8 56), .lit (.int .u8 2), .lit (.int .u8 57), .lit (.int .u8 49), .lit (.int .u8 28), .lit (.int .u8 3), .lit (.int .u8 61), .lit (.int .u8 58), .lit (.int .u8 42), .lit (.int .u8 50), .lit (.int .u8 38), .lit (.int .u8 29), .lit (.int .u8 17), .lit (.int .u8 4), .lit (.int .u8 62), .lit (.int .u8 47), .lit (.int .u8 59), .lit (.int .u8 36), .lit (.int .u8 45), .lit (.int .u8 43), .lit (.int .u8 51), .lit (.int .u8 22), .lit (.int .u8 53), .lit (.int .u8 39), .lit (.int .u8 33), .lit (.int .u8 30), .lit (.int .u8 24), .lit (.int .u8 18), .lit (.int .u8 12), .lit (.int .u8 5), .lit (.int .u8 63), .lit (.int .u8 55), .lit (.int .u8 48), .lit (.int .u8 27), .lit (.int .u8 60), .lit (.int .u8 41), .lit (.int .u8 37), .lit (.int .u8 16), .lit (.int .u8 46), .lit (.int .u8 35), .lit (.int .u8 44), .lit (.int .u8 21), .lit (.int .u8 52), .lit (.int .u8 32), .lit (.int .u8 23), .lit (.int .u8 11), .lit (.int .u8 54), .lit (.int .u8 26), .lit (.int .u8 40), .lit (.int .u8 15), .lit (.int .u8 34), .lit (.int .u8 20), .lit (.int .u8 31), .lit (.int .u8 10), .lit (.int .u8 25), .lit (.int .u8 14), .lit (.int .u8 19), .lit (.int .u8 9), .lit (.int .u8 13), .lit (.int .u8 8), .lit (.int .u8 7), .lit (.int .u8 6)]
def laid_internal_strconv_uint64pow10 {H : Type} : DataW H := .agg [.lit (.int .u64 1), .lit (.int .u64 10), .lit (.int .u64 100), .lit (.int .u64 1000), .lit (.int .u64 10000), .lit (.int .u64 100000), .lit (.int .u64 1000000), .lit (.int .u64 10000000), .lit (.int .u64 100000000), .lit (.int .u64 1000000000), .lit (.int .u64 10000000000), .lit (.int .u64 100000000000), .lit (.int .u64 1000000000000), .lit (.int .u64 10000000000000), .lit (.int .u64 100000000000000), .lit (.int .u64 1000000000000000), .lit (.int .u64 10000000000000000), .lit (.int .u64 100000000000000000), .lit (.int .u64 1000000000000000000), .lit (.int .u64 10000000000000000000)]

/-- 'rflaw2.SchedulesFound': WHATEVER THE INPUT: true; the input reads as it did. -/
def schedulesFoundSpec : ChangeSpec := { name := "schedulesFound", fn := fun _ => fun
  | [d] => { results := [.lit (.bool true)], args := [d] }
  | _ => none }
def schedulesFoundRow : OpenClaim := { program := "ytplphabekhaoaaagreatdoor", sum := "718e8d0cad3a08f41d105aa1e7de6782a1ea7df8a054e64464a26bd93383cb15", func := "reelfeeder/rflaw2.SchedulesFound", spec := "schedulesFound", inPlace := ["internal/bytealg.IndexByteString", "internal/bytealg.IndexString", "internal/bytealg.abigen_runtime_cmpstring"], unfollowed := true, recurses := true, named := ["unicode/utf8.first", "unicode/utf8.acceptRanges", "internal/bytealg.MaxLen"], plainKeys := false, apart := false, laid := [("unicode/utf8.acceptRanges", laid_unicode_utf8_acceptRanges), ("unicode/utf8.first", laid_unicode_utf8_first)] }
def SchedulesFoundSaid : Prop := schedulesFoundRow.holds Tryz.pinned (OpenSpec.ofChange schedulesFoundSpec)

/-- ITS FALSE NEIGHBOUR: 'it returns false'. Refute it at one input. -/
def schedulesFoundWrong : ChangeSpec := { name := "schedulesFound", fn := fun _ => fun
  | [d] => { results := [.lit (.bool false)], args := [d] }
  | _ => none }
def SchedulesFoundWrongFalsely : Prop := schedulesFoundRow.holds Tryz.pinned (OpenSpec.ofChange schedulesFoundWrong)

/-- 'rflaw2.SchedulesTimed': WHATEVER THE INPUT: true; the input reads as it did. -/
def schedulesTimedSpec : ChangeSpec := { name := "schedulesTimed", fn := fun _ => fun
  | [d] => { results := [.lit (.bool true)], args := [d] }
  | _ => none }
def schedulesTimedRow : OpenClaim := { program := "ytplphabekhaoaaagreatdoor", sum := "718e8d0cad3a08f41d105aa1e7de6782a1ea7df8a054e64464a26bd93383cb15", func := "reelfeeder/rflaw2.SchedulesTimed", spec := "schedulesTimed", inPlace := ["internal/bytealg.IndexByteString", "internal/bytealg.IndexString", "internal/bytealg.abigen_runtime_cmpstring"], unfollowed := true, recurses := true, named := ["unicode/utf8.first", "unicode/utf8.acceptRanges", "internal/bytealg.MaxLen"], plainKeys := false, apart := false, laid := [("unicode/utf8.acceptRanges", laid_unicode_utf8_acceptRanges), ("unicode/utf8.first", laid_unicode_utf8_first)] }
def SchedulesTimedSaid : Prop := schedulesTimedRow.holds Tryz.pinned (OpenSpec.ofChange schedulesTimedSpec)

/-- ITS FALSE NEIGHBOUR: 'it returns false'. Refute it at one input. -/
def schedulesTimedWrong : ChangeSpec := { name := "schedulesTimed", fn := fun _ => fun
  | [d] => { results := [.lit (.bool false)], args := [d] }
  | _ => none }
def SchedulesTimedWrongFalsely : Prop := schedulesTimedRow.holds Tryz.pinned (OpenSpec.ofChange schedulesTimedWrong)

/-- 'rflaw2.OrdersPromised': WHATEVER THE INPUT: true; the input reads as it did. -/
def ordersPromisedSpec : ChangeSpec := { name := "ordersPromised", fn := fun _ => fun
  | [d] => { results := [.lit (.bool true)], args := [d] }
  | _ => none }
def ordersPromisedRow : OpenClaim := { program := "ytplphabekhaoaaagreatdoor", sum := "718e8d0cad3a08f41d105aa1e7de6782a1ea7df8a054e64464a26bd93383cb15", func := "reelfeeder/rflaw2.OrdersPromised", spec := "ordersPromised", inPlace := ["internal/bytealg.IndexByteString", "internal/bytealg.IndexString", "internal/bytealg.abigen_runtime_cmpstring", "slices.overlaps[int]"], unfollowed := true, recurses := true, named := ["unicode/utf8.first", "unicode/utf8.acceptRanges", "internal/bytealg.MaxLen"], plainKeys := false, apart := false, laid := [("unicode/utf8.acceptRanges", laid_unicode_utf8_acceptRanges), ("unicode/utf8.first", laid_unicode_utf8_first)] }
def OrdersPromisedSaid : Prop := ordersPromisedRow.holds Tryz.pinned (OpenSpec.ofChange ordersPromisedSpec)

/-- ITS FALSE NEIGHBOUR: 'it returns false'. Refute it at one input. -/
def ordersPromisedWrong : ChangeSpec := { name := "ordersPromised", fn := fun _ => fun
  | [d] => { results := [.lit (.bool false)], args := [d] }
  | _ => none }
def OrdersPromisedWrongFalsely : Prop := ordersPromisedRow.holds Tryz.pinned (OpenSpec.ofChange ordersPromisedWrong)

/-- 'rfkeep2.BoardsLeaveInOrder': WHATEVER THE INPUT: true; the input reads as it did. -/
def boardsLeaveInOrderSpec : ChangeSpec := { name := "boardsLeaveInOrder", fn := fun _ => fun
  | [d] => { results := [.lit (.bool true)], args := [d] }
  | _ => none }
def boardsLeaveInOrderRow : OpenClaim := { program := "ytplphabekhaoaaagreatdoor", sum := "718e8d0cad3a08f41d105aa1e7de6782a1ea7df8a054e64464a26bd93383cb15", func := "reelfeeder/rfkeep2.BoardsLeaveInOrder", spec := "boardsLeaveInOrder", inPlace := ["internal/bytealg.IndexByteString", "internal/bytealg.IndexString", "internal/bytealg.abigen_runtime_cmpstring"], unfollowed := true, recurses := true, named := ["unicode/utf8.first", "unicode/utf8.acceptRanges", "internal/bytealg.MaxLen"], plainKeys := false, apart := false, laid := [("unicode/utf8.acceptRanges", laid_unicode_utf8_acceptRanges), ("unicode/utf8.first", laid_unicode_utf8_first)] }
def BoardsLeaveInOrderSaid : Prop := boardsLeaveInOrderRow.holds Tryz.pinned (OpenSpec.ofChange boardsLeaveInOrderSpec)

/-- ITS FALSE NEIGHBOUR: 'it returns false'. Refute it at one input. -/
def boardsLeaveInOrderWrong : ChangeSpec := { name := "boardsLeaveInOrder", fn := fun _ => fun
  | [d] => { results := [.lit (.bool false)], args := [d] }
  | _ => none }
def BoardsLeaveInOrderWrongFalsely : Prop := boardsLeaveInOrderRow.holds Tryz.pinned (OpenSpec.ofChange boardsLeaveInOrderWrong)

/-- 'rftop.TopSetupsAreChangeovers': WHATEVER THE INPUT: true; the input reads as it did. -/
def topSetupsAreChangeoversSpec : ChangeSpec := { name := "topSetupsAreChangeovers", fn := fun _ => fun
  | [d] => { results := [.lit (.bool true)], args := [d] }
  | _ => none }
def topSetupsAreChangeoversRow : OpenClaim := { program := "ytplphabekhaoaaagreatdoor", sum := "718e8d0cad3a08f41d105aa1e7de6782a1ea7df8a054e64464a26bd93383cb15", func := "reelfeeder/rftop.TopSetupsAreChangeovers", spec := "topSetupsAreChangeovers", inPlace := ["internal/bytealg.IndexByteString", "internal/bytealg.IndexString", "internal/bytealg.abigen_runtime_cmpstring", "slices.overlaps[[]string]"], unfollowed := true, recurses := true, named := ["unicode/utf8.first", "unicode/utf8.acceptRanges", "internal/strconv.uint64pow10", "math/bits.deBruijn32tab", "math/bits.deBruijn64tab", "internal/bytealg.MaxLen"], plainKeys := false, apart := false, laid := [("math/bits.deBruijn32tab", laid_math_bits_deBruijn32tab), ("math/bits.deBruijn64tab", laid_math_bits_deBruijn64tab), ("internal/strconv.uint64pow10", laid_internal_strconv_uint64pow10), ("unicode/utf8.acceptRanges", laid_unicode_utf8_acceptRanges), ("unicode/utf8.first", laid_unicode_utf8_first)] }
def TopSetupsAreChangeoversSaid : Prop := topSetupsAreChangeoversRow.holds Tryz.pinned (OpenSpec.ofChange topSetupsAreChangeoversSpec)

/-- ITS FALSE NEIGHBOUR: 'it returns false'. Refute it at one input. -/
def topSetupsAreChangeoversWrong : ChangeSpec := { name := "topSetupsAreChangeovers", fn := fun _ => fun
  | [d] => { results := [.lit (.bool false)], args := [d] }
  | _ => none }
def TopSetupsAreChangeoversWrongFalsely : Prop := topSetupsAreChangeoversRow.holds Tryz.pinned (OpenSpec.ofChange topSetupsAreChangeoversWrong)

/-- 'rfkeep2.EnoughIsEnough': WHATEVER THE INPUT: true; the input reads as it did. -/
def enoughIsEnoughSpec : ChangeSpec := { name := "enoughIsEnough", fn := fun _ => fun
  | [d] => { results := [.lit (.bool true)], args := [d] }
  | _ => none }
def enoughIsEnoughRow : OpenClaim := { program := "ytplphabekhaoaaagreatdoor", sum := "718e8d0cad3a08f41d105aa1e7de6782a1ea7df8a054e64464a26bd93383cb15", func := "reelfeeder/rfkeep2.EnoughIsEnough", spec := "enoughIsEnough", inPlace := ["internal/bytealg.IndexByteString", "internal/bytealg.IndexString", "internal/bytealg.abigen_runtime_cmpstring"], unfollowed := true, recurses := true, named := ["unicode/utf8.first", "unicode/utf8.acceptRanges", "internal/bytealg.MaxLen"], plainKeys := false, apart := false, laid := [("unicode/utf8.acceptRanges", laid_unicode_utf8_acceptRanges), ("unicode/utf8.first", laid_unicode_utf8_first)] }
def EnoughIsEnoughSaid : Prop := enoughIsEnoughRow.holds Tryz.pinned (OpenSpec.ofChange enoughIsEnoughSpec)

/-- ITS FALSE NEIGHBOUR: 'it returns false'. Refute it at one input. -/
def enoughIsEnoughWrong : ChangeSpec := { name := "enoughIsEnough", fn := fun _ => fun
  | [d] => { results := [.lit (.bool false)], args := [d] }
  | _ => none }
def EnoughIsEnoughWrongFalsely : Prop := enoughIsEnoughRow.holds Tryz.pinned (OpenSpec.ofChange enoughIsEnoughWrong)

/-- 'rfkeep2.GroupsHoldAll': WHATEVER THE INPUT: true; the input reads as it did. -/
def groupsHoldAllSpec : ChangeSpec := { name := "groupsHoldAll", fn := fun _ => fun
  | [d] => { results := [.lit (.bool true)], args := [d] }
  | _ => none }
def groupsHoldAllRow : OpenClaim := { program := "ytplphabekhaoaaagreatdoor", sum := "718e8d0cad3a08f41d105aa1e7de6782a1ea7df8a054e64464a26bd93383cb15", func := "reelfeeder/rfkeep2.GroupsHoldAll", spec := "groupsHoldAll", inPlace := ["internal/bytealg.IndexByteString", "internal/bytealg.IndexString", "internal/bytealg.abigen_runtime_cmpstring"], unfollowed := true, recurses := true, named := ["unicode/utf8.first", "unicode/utf8.acceptRanges", "internal/bytealg.MaxLen"], plainKeys := false, apart := false, laid := [("unicode/utf8.acceptRanges", laid_unicode_utf8_acceptRanges), ("unicode/utf8.first", laid_unicode_utf8_first)] }
def GroupsHoldAllSaid : Prop := groupsHoldAllRow.holds Tryz.pinned (OpenSpec.ofChange groupsHoldAllSpec)

/-- ITS FALSE NEIGHBOUR: 'it returns false'. Refute it at one input. -/
def groupsHoldAllWrong : ChangeSpec := { name := "groupsHoldAll", fn := fun _ => fun
  | [d] => { results := [.lit (.bool false)], args := [d] }
  | _ => none }
def GroupsHoldAllWrongFalsely : Prop := groupsHoldAllRow.holds Tryz.pinned (OpenSpec.ofChange groupsHoldAllWrong)

/-- 'rfkeep2.TotalsAreLeast': WHATEVER THE INPUT: true; the input reads as it did. -/
def totalsAreLeastSpec : ChangeSpec := { name := "totalsAreLeast", fn := fun _ => fun
  | [d] => { results := [.lit (.bool true)], args := [d] }
  | _ => none }
def totalsAreLeastRow : OpenClaim := { program := "ytplphabekhaoaaagreatdoor", sum := "718e8d0cad3a08f41d105aa1e7de6782a1ea7df8a054e64464a26bd93383cb15", func := "reelfeeder/rfkeep2.TotalsAreLeast", spec := "totalsAreLeast", inPlace := ["internal/bytealg.IndexByteString", "internal/bytealg.IndexString", "internal/bytealg.abigen_runtime_cmpstring"], unfollowed := true, recurses := true, named := ["unicode/utf8.first", "unicode/utf8.acceptRanges", "internal/bytealg.MaxLen"], plainKeys := false, apart := false, laid := [("unicode/utf8.acceptRanges", laid_unicode_utf8_acceptRanges), ("unicode/utf8.first", laid_unicode_utf8_first)] }
def TotalsAreLeastSaid : Prop := totalsAreLeastRow.holds Tryz.pinned (OpenSpec.ofChange totalsAreLeastSpec)

/-- ITS FALSE NEIGHBOUR: 'it returns false'. Refute it at one input. -/
def totalsAreLeastWrong : ChangeSpec := { name := "totalsAreLeast", fn := fun _ => fun
  | [d] => { results := [.lit (.bool false)], args := [d] }
  | _ => none }
def TotalsAreLeastWrongFalsely : Prop := totalsAreLeastRow.holds Tryz.pinned (OpenSpec.ofChange totalsAreLeastWrong)

/-- 'rfkeep2.PromisesHold': WHATEVER THE INPUT: true; the input reads as it did. -/
def promisesHoldSpec : ChangeSpec := { name := "promisesHold", fn := fun _ => fun
  | [d] => { results := [.lit (.bool true)], args := [d] }
  | _ => none }
def promisesHoldRow : OpenClaim := { program := "ytplphabekhaoaaagreatdoor", sum := "718e8d0cad3a08f41d105aa1e7de6782a1ea7df8a054e64464a26bd93383cb15", func := "reelfeeder/rfkeep2.PromisesHold", spec := "promisesHold", inPlace := ["internal/bytealg.IndexByteString", "internal/bytealg.IndexString", "internal/bytealg.abigen_runtime_cmpstring", "slices.overlaps[int]"], unfollowed := true, recurses := true, named := ["unicode/utf8.first", "unicode/utf8.acceptRanges", "internal/bytealg.MaxLen"], plainKeys := false, apart := false, laid := [("unicode/utf8.acceptRanges", laid_unicode_utf8_acceptRanges), ("unicode/utf8.first", laid_unicode_utf8_first)] }
def PromisesHoldSaid : Prop := promisesHoldRow.holds Tryz.pinned (OpenSpec.ofChange promisesHoldSpec)

/-- ITS FALSE NEIGHBOUR: 'it returns false'. Refute it at one input. -/
def promisesHoldWrong : ChangeSpec := { name := "promisesHold", fn := fun _ => fun
  | [d] => { results := [.lit (.bool false)], args := [d] }
  | _ => none }
def PromisesHoldWrongFalsely : Prop := promisesHoldRow.holds Tryz.pinned (OpenSpec.ofChange promisesHoldWrong)

/-- 'rfkeep2.NextHasAll': WHATEVER THE INPUT: true; the input reads as it did. -/
def nextHasAllSpec : ChangeSpec := { name := "nextHasAll", fn := fun _ => fun
  | [d] => { results := [.lit (.bool true)], args := [d] }
  | _ => none }
def nextHasAllRow : OpenClaim := { program := "ytplphabekhaoaaagreatdoor", sum := "718e8d0cad3a08f41d105aa1e7de6782a1ea7df8a054e64464a26bd93383cb15", func := "reelfeeder/rfkeep2.NextHasAll", spec := "nextHasAll", inPlace := ["internal/bytealg.IndexByteString", "internal/bytealg.IndexString", "internal/bytealg.abigen_runtime_cmpstring", "slices.overlaps[[]string]"], unfollowed := true, recurses := true, named := ["unicode/utf8.first", "unicode/utf8.acceptRanges", "internal/bytealg.MaxLen"], plainKeys := false, apart := false, laid := [("unicode/utf8.acceptRanges", laid_unicode_utf8_acceptRanges), ("unicode/utf8.first", laid_unicode_utf8_first)] }
def NextHasAllSaid : Prop := nextHasAllRow.holds Tryz.pinned (OpenSpec.ofChange nextHasAllSpec)

/-- ITS FALSE NEIGHBOUR: 'it returns false'. Refute it at one input. -/
def nextHasAllWrong : ChangeSpec := { name := "nextHasAll", fn := fun _ => fun
  | [d] => { results := [.lit (.bool false)], args := [d] }
  | _ => none }
def NextHasAllWrongFalsely : Prop := nextHasAllRow.holds Tryz.pinned (OpenSpec.ofChange nextHasAllWrong)

/-- 'rfkeep2.SchedulesAreLeast': WHATEVER THE INPUT: true; the input reads as it did. -/
def schedulesAreLeastSpec : ChangeSpec := { name := "schedulesAreLeast", fn := fun _ => fun
  | [d] => { results := [.lit (.bool true)], args := [d] }
  | _ => none }
def schedulesAreLeastRow : OpenClaim := { program := "ytplphabekhaoaaagreatdoor", sum := "718e8d0cad3a08f41d105aa1e7de6782a1ea7df8a054e64464a26bd93383cb15", func := "reelfeeder/rfkeep2.SchedulesAreLeast", spec := "schedulesAreLeast", inPlace := ["internal/bytealg.IndexByteString", "internal/bytealg.IndexString", "internal/bytealg.abigen_runtime_cmpstring"], unfollowed := true, recurses := true, named := ["unicode/utf8.first", "unicode/utf8.acceptRanges", "internal/bytealg.MaxLen"], plainKeys := false, apart := false, laid := [("unicode/utf8.acceptRanges", laid_unicode_utf8_acceptRanges), ("unicode/utf8.first", laid_unicode_utf8_first)] }
def SchedulesAreLeastSaid : Prop := schedulesAreLeastRow.holds Tryz.pinned (OpenSpec.ofChange schedulesAreLeastSpec)

/-- ITS FALSE NEIGHBOUR: 'it returns false'. Refute it at one input. -/
def schedulesAreLeastWrong : ChangeSpec := { name := "schedulesAreLeast", fn := fun _ => fun
  | [d] => { results := [.lit (.bool false)], args := [d] }
  | _ => none }
def SchedulesAreLeastWrongFalsely : Prop := schedulesAreLeastRow.holds Tryz.pinned (OpenSpec.ofChange schedulesAreLeastWrong)

/- THE SECOND FORM. 'bulk': how many values and letters a reading holds, each counted each time it is reached (what is shared counts as often as it is met; a slice's spare places count too). A statement '..UptoSaid' is the law's where the arguments, and the package variables that the reading takes, are together of bulk at most 1048576: NARROWER than '..Said'. Prove '..Said' where nothing that the law and all that it calls make is longer than what came in: it says more and counts as full. Else prove '..UptoSaid'. A law counts once. -/
mutual
def uptoBulk {H : Type} : DataW H → Nat
  | .lit (.string bytes) => bytes.length + 1
  | .lit _ => 1
  | .nil => 1
  | .ptr d => uptoBulk d + 1
  | .slice elems spare => uptoBulkAll elems + uptoBulkAll spare + 1
  | .agg parts => uptoBulkAll parts + 1
  | .iface _ d => uptoBulk d + 1
  | .map entries => uptoBulkEntries entries + 1
  | .held _ => 1
def uptoBulkAll {H : Type} : List (DataW H) → Nat
  | [] => 0
  | d :: r => uptoBulk d + uptoBulkAll r
def uptoBulkEntries {H : Type} : List (Lit × DataW H) → Nat
  | [] => 0
  | x :: r => uptoBulkEntry x + uptoBulkEntries r
def uptoBulkEntry {H : Type} : Lit × DataW H → Nat
  | (.string bytes, d) => bytes.length + uptoBulk d + 1
  | (_, d) => uptoBulk d + 1
 end
def uptoSmall : (H : Type) → List (DataW H) → Bool := fun _ ds => decide (uptoBulkAll ds ≤ 1048576)
def OpenSpec.upto (s : _root_.Go.ChangeSpec) : _root_.Go.OpenSpec := { _root_.Go.OpenSpec.ofChange s with cond := some uptoSmall }

/-- 'rflaw2.SchedulesFound', WHERE WHAT IT READS IS OF BULK AT MOST 1048576: true; the input reads as it did. -/
def schedulesFoundUptoRow : OpenClaim := { program := "ytplphabekhaoaaagreatdoor", sum := "718e8d0cad3a08f41d105aa1e7de6782a1ea7df8a054e64464a26bd93383cb15", func := "reelfeeder/rflaw2.SchedulesFound", spec := "schedulesFound", inPlace := ["internal/bytealg.IndexByteString", "internal/bytealg.IndexString", "internal/bytealg.abigen_runtime_cmpstring"], unfollowed := true, recurses := true, named := ["unicode/utf8.first", "unicode/utf8.acceptRanges", "internal/bytealg.MaxLen"], plainKeys := false, apart := false, laid := [("unicode/utf8.acceptRanges", laid_unicode_utf8_acceptRanges), ("unicode/utf8.first", laid_unicode_utf8_first)], narrowed := true }
def SchedulesFoundUptoSaid : Prop := schedulesFoundUptoRow.holds Tryz.pinned (OpenSpec.upto schedulesFoundSpec)

/-- 'rflaw2.SchedulesTimed', WHERE WHAT IT READS IS OF BULK AT MOST 1048576: true; the input reads as it did. -/
def schedulesTimedUptoRow : OpenClaim := { program := "ytplphabekhaoaaagreatdoor", sum := "718e8d0cad3a08f41d105aa1e7de6782a1ea7df8a054e64464a26bd93383cb15", func := "reelfeeder/rflaw2.SchedulesTimed", spec := "schedulesTimed", inPlace := ["internal/bytealg.IndexByteString", "internal/bytealg.IndexString", "internal/bytealg.abigen_runtime_cmpstring"], unfollowed := true, recurses := true, named := ["unicode/utf8.first", "unicode/utf8.acceptRanges", "internal/bytealg.MaxLen"], plainKeys := false, apart := false, laid := [("unicode/utf8.acceptRanges", laid_unicode_utf8_acceptRanges), ("unicode/utf8.first", laid_unicode_utf8_first)], narrowed := true }
def SchedulesTimedUptoSaid : Prop := schedulesTimedUptoRow.holds Tryz.pinned (OpenSpec.upto schedulesTimedSpec)

/-- 'rflaw2.OrdersPromised', WHERE WHAT IT READS IS OF BULK AT MOST 1048576: true; the input reads as it did. -/
def ordersPromisedUptoRow : OpenClaim := { program := "ytplphabekhaoaaagreatdoor", sum := "718e8d0cad3a08f41d105aa1e7de6782a1ea7df8a054e64464a26bd93383cb15", func := "reelfeeder/rflaw2.OrdersPromised", spec := "ordersPromised", inPlace := ["internal/bytealg.IndexByteString", "internal/bytealg.IndexString", "internal/bytealg.abigen_runtime_cmpstring", "slices.overlaps[int]"], unfollowed := true, recurses := true, named := ["unicode/utf8.first", "unicode/utf8.acceptRanges", "internal/bytealg.MaxLen"], plainKeys := false, apart := false, laid := [("unicode/utf8.acceptRanges", laid_unicode_utf8_acceptRanges), ("unicode/utf8.first", laid_unicode_utf8_first)], narrowed := true }
def OrdersPromisedUptoSaid : Prop := ordersPromisedUptoRow.holds Tryz.pinned (OpenSpec.upto ordersPromisedSpec)

/-- 'rfkeep2.BoardsLeaveInOrder', WHERE WHAT IT READS IS OF BULK AT MOST 1048576: true; the input reads as it did. -/
def boardsLeaveInOrderUptoRow : OpenClaim := { program := "ytplphabekhaoaaagreatdoor", sum := "718e8d0cad3a08f41d105aa1e7de6782a1ea7df8a054e64464a26bd93383cb15", func := "reelfeeder/rfkeep2.BoardsLeaveInOrder", spec := "boardsLeaveInOrder", inPlace := ["internal/bytealg.IndexByteString", "internal/bytealg.IndexString", "internal/bytealg.abigen_runtime_cmpstring"], unfollowed := true, recurses := true, named := ["unicode/utf8.first", "unicode/utf8.acceptRanges", "internal/bytealg.MaxLen"], plainKeys := false, apart := false, laid := [("unicode/utf8.acceptRanges", laid_unicode_utf8_acceptRanges), ("unicode/utf8.first", laid_unicode_utf8_first)], narrowed := true }
def BoardsLeaveInOrderUptoSaid : Prop := boardsLeaveInOrderUptoRow.holds Tryz.pinned (OpenSpec.upto boardsLeaveInOrderSpec)

/-- 'rftop.TopSetupsAreChangeovers', WHERE WHAT IT READS IS OF BULK AT MOST 1048576: true; the input reads as it did. -/
def topSetupsAreChangeoversUptoRow : OpenClaim := { program := "ytplphabekhaoaaagreatdoor", sum := "718e8d0cad3a08f41d105aa1e7de6782a1ea7df8a054e64464a26bd93383cb15", func := "reelfeeder/rftop.TopSetupsAreChangeovers", spec := "topSetupsAreChangeovers", inPlace := ["internal/bytealg.IndexByteString", "internal/bytealg.IndexString", "internal/bytealg.abigen_runtime_cmpstring", "slices.overlaps[[]string]"], unfollowed := true, recurses := true, named := ["unicode/utf8.first", "unicode/utf8.acceptRanges", "internal/strconv.uint64pow10", "math/bits.deBruijn32tab", "math/bits.deBruijn64tab", "internal/bytealg.MaxLen"], plainKeys := false, apart := false, laid := [("math/bits.deBruijn32tab", laid_math_bits_deBruijn32tab), ("math/bits.deBruijn64tab", laid_math_bits_deBruijn64tab), ("internal/strconv.uint64pow10", laid_internal_strconv_uint64pow10), ("unicode/utf8.acceptRanges", laid_unicode_utf8_acceptRanges), ("unicode/utf8.first", laid_unicode_utf8_first)], narrowed := true }
def TopSetupsAreChangeoversUptoSaid : Prop := topSetupsAreChangeoversUptoRow.holds Tryz.pinned (OpenSpec.upto topSetupsAreChangeoversSpec)

/-- 'rfkeep2.EnoughIsEnough', WHERE WHAT IT READS IS OF BULK AT MOST 1048576: true; the input reads as it did. -/
def enoughIsEnoughUptoRow : OpenClaim := { program := "ytplphabekhaoaaagreatdoor", sum := "718e8d0cad3a08f41d105aa1e7de6782a1ea7df8a054e64464a26bd93383cb15", func := "reelfeeder/rfkeep2.EnoughIsEnough", spec := "enoughIsEnough", inPlace := ["internal/bytealg.IndexByteString", "internal/bytealg.IndexString", "internal/bytealg.abigen_runtime_cmpstring"], unfollowed := true, recurses := true, named := ["unicode/utf8.first", "unicode/utf8.acceptRanges", "internal/bytealg.MaxLen"], plainKeys := false, apart := false, laid := [("unicode/utf8.acceptRanges", laid_unicode_utf8_acceptRanges), ("unicode/utf8.first", laid_unicode_utf8_first)], narrowed := true }
def EnoughIsEnoughUptoSaid : Prop := enoughIsEnoughUptoRow.holds Tryz.pinned (OpenSpec.upto enoughIsEnoughSpec)

/-- 'rfkeep2.GroupsHoldAll', WHERE WHAT IT READS IS OF BULK AT MOST 1048576: true; the input reads as it did. -/
def groupsHoldAllUptoRow : OpenClaim := { program := "ytplphabekhaoaaagreatdoor", sum := "718e8d0cad3a08f41d105aa1e7de6782a1ea7df8a054e64464a26bd93383cb15", func := "reelfeeder/rfkeep2.GroupsHoldAll", spec := "groupsHoldAll", inPlace := ["internal/bytealg.IndexByteString", "internal/bytealg.IndexString", "internal/bytealg.abigen_runtime_cmpstring"], unfollowed := true, recurses := true, named := ["unicode/utf8.first", "unicode/utf8.acceptRanges", "internal/bytealg.MaxLen"], plainKeys := false, apart := false, laid := [("unicode/utf8.acceptRanges", laid_unicode_utf8_acceptRanges), ("unicode/utf8.first", laid_unicode_utf8_first)], narrowed := true }
def GroupsHoldAllUptoSaid : Prop := groupsHoldAllUptoRow.holds Tryz.pinned (OpenSpec.upto groupsHoldAllSpec)

/-- 'rfkeep2.TotalsAreLeast', WHERE WHAT IT READS IS OF BULK AT MOST 1048576: true; the input reads as it did. -/
def totalsAreLeastUptoRow : OpenClaim := { program := "ytplphabekhaoaaagreatdoor", sum := "718e8d0cad3a08f41d105aa1e7de6782a1ea7df8a054e64464a26bd93383cb15", func := "reelfeeder/rfkeep2.TotalsAreLeast", spec := "totalsAreLeast", inPlace := ["internal/bytealg.IndexByteString", "internal/bytealg.IndexString", "internal/bytealg.abigen_runtime_cmpstring"], unfollowed := true, recurses := true, named := ["unicode/utf8.first", "unicode/utf8.acceptRanges", "internal/bytealg.MaxLen"], plainKeys := false, apart := false, laid := [("unicode/utf8.acceptRanges", laid_unicode_utf8_acceptRanges), ("unicode/utf8.first", laid_unicode_utf8_first)], narrowed := true }
def TotalsAreLeastUptoSaid : Prop := totalsAreLeastUptoRow.holds Tryz.pinned (OpenSpec.upto totalsAreLeastSpec)

/-- 'rfkeep2.PromisesHold', WHERE WHAT IT READS IS OF BULK AT MOST 1048576: true; the input reads as it did. -/
def promisesHoldUptoRow : OpenClaim := { program := "ytplphabekhaoaaagreatdoor", sum := "718e8d0cad3a08f41d105aa1e7de6782a1ea7df8a054e64464a26bd93383cb15", func := "reelfeeder/rfkeep2.PromisesHold", spec := "promisesHold", inPlace := ["internal/bytealg.IndexByteString", "internal/bytealg.IndexString", "internal/bytealg.abigen_runtime_cmpstring", "slices.overlaps[int]"], unfollowed := true, recurses := true, named := ["unicode/utf8.first", "unicode/utf8.acceptRanges", "internal/bytealg.MaxLen"], plainKeys := false, apart := false, laid := [("unicode/utf8.acceptRanges", laid_unicode_utf8_acceptRanges), ("unicode/utf8.first", laid_unicode_utf8_first)], narrowed := true }
def PromisesHoldUptoSaid : Prop := promisesHoldUptoRow.holds Tryz.pinned (OpenSpec.upto promisesHoldSpec)

/-- 'rfkeep2.NextHasAll', WHERE WHAT IT READS IS OF BULK AT MOST 1048576: true; the input reads as it did. -/
def nextHasAllUptoRow : OpenClaim := { program := "ytplphabekhaoaaagreatdoor", sum := "718e8d0cad3a08f41d105aa1e7de6782a1ea7df8a054e64464a26bd93383cb15", func := "reelfeeder/rfkeep2.NextHasAll", spec := "nextHasAll", inPlace := ["internal/bytealg.IndexByteString", "internal/bytealg.IndexString", "internal/bytealg.abigen_runtime_cmpstring", "slices.overlaps[[]string]"], unfollowed := true, recurses := true, named := ["unicode/utf8.first", "unicode/utf8.acceptRanges", "internal/bytealg.MaxLen"], plainKeys := false, apart := false, laid := [("unicode/utf8.acceptRanges", laid_unicode_utf8_acceptRanges), ("unicode/utf8.first", laid_unicode_utf8_first)], narrowed := true }
def NextHasAllUptoSaid : Prop := nextHasAllUptoRow.holds Tryz.pinned (OpenSpec.upto nextHasAllSpec)

/-- 'rfkeep2.SchedulesAreLeast', WHERE WHAT IT READS IS OF BULK AT MOST 1048576: true; the input reads as it did. -/
def schedulesAreLeastUptoRow : OpenClaim := { program := "ytplphabekhaoaaagreatdoor", sum := "718e8d0cad3a08f41d105aa1e7de6782a1ea7df8a054e64464a26bd93383cb15", func := "reelfeeder/rfkeep2.SchedulesAreLeast", spec := "schedulesAreLeast", inPlace := ["internal/bytealg.IndexByteString", "internal/bytealg.IndexString", "internal/bytealg.abigen_runtime_cmpstring"], unfollowed := true, recurses := true, named := ["unicode/utf8.first", "unicode/utf8.acceptRanges", "internal/bytealg.MaxLen"], plainKeys := false, apart := false, laid := [("unicode/utf8.acceptRanges", laid_unicode_utf8_acceptRanges), ("unicode/utf8.first", laid_unicode_utf8_first)], narrowed := true }
def SchedulesAreLeastUptoSaid : Prop := schedulesAreLeastUptoRow.holds Tryz.pinned (OpenSpec.upto schedulesAreLeastSpec)

end Rows
end Go.Proofs.YtplphabekhaoaaaGreatDoor
