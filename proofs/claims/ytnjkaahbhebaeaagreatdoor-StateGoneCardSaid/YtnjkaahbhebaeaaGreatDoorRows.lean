/-
  NARROWER THAN 'FOR EVERY INPUT', by the rows' own cells (each row's printed sentence says how): LinkMade: laid · LinkCalls: laid · StateLess: laid · StateGone: laid · StateRuns: laid · StatePlain: laid · JourneyWaits: laid · JourneyJoins: laid.
  DERIVED. THE GIVEN ROWS OF THIS SEAT. 8 by the template 'for every input the law returns true; each argument reads behind the call as it read before'; 0 by the template 'total and deterministic' (their statements: YtnjkaahbhebaeaaGreatDoorTotals.lean).
  GIVEN WITH THE SEED: the statements are not yours to turn. If you find one false, say at which input.
  Laid BY PROGRAM, IN A SANDBOX (cutbox-rows.mjs): the forced cells as the released guide's own fill.sh prints them over the translation e29fb3ee64d2784e… (all of the seat's roots in one cut). By AI agents, Wed Nov 11 2026. No macro, syntax, notation, axiom, sorry.
-/
import Derived.Test.YtnjkaahbhebaeaaGreatDoorChecked
import GoSem.Claim
import GoSem.ClaimJoined
import GoSem.ClaimMapViews
import Derived.JoinedTies
import Derived.KernelRfl
namespace Go.Proofs.YtnjkaahbhebaeaaGreatDoor
/- THE CELL 'sum', in the pinned program and in every row, IS THE sha256 OF THE DUMP (.gsa) THAT YtnjkaahbhebaeaaGreatDoorProg.lean LOADS. Nothing in Lean hashes anything: it is a label: what it is worth is what the hold of that sum in a sandbox is worth. -/
noncomputable def Tryz.pinned : Pinned := { name := "ytnjkaahbhebaeaagreatdoor", sum := "e29fb3ee64d2784ed9fc47733e0102e529299daea805cfc606cdb9098a9fda2e", checked := Tryz.checked }
namespace Rows
def none {H : Type} : Left H := { results := [], args := [] }

/- WHAT THE LISTED PACKAGE-LEVEL VARIABLES READ AS WHEN THE CALL BEGINS. Each datum BY PROGRAM (the guide's laid-datum.mjs) off the statement by which the dump's own 'gosem.cut.vars' lays the variable. In a bare row this is a premise. The card (YtnjkaahbhebaeaaGreatDoorCards.lean) ties it to the program's text. -/
def laid_unicode_White_Space {H : Type} : DataW H := .ptr (.agg [.slice [.agg [.lit (.int .u16 9), .lit (.int .u16 13), .lit (.int .u16 1)], .agg [.lit (.int .u16 32), .lit (.int .u16 133), .lit (.int .u16 101)], .agg [.lit (.int .u16 160), .lit (.int .u16 5760), .lit (.int .u16 5600)], .agg [.lit (.int .u16 8192), .lit (.int .u16 8202), .lit (.int .u16 1)], .agg [.lit (.int .u16 8232), .lit (.int .u16 8233), .lit (.int .u16 1)], .agg [.lit (.int .u16 8239), .lit (.int .u16 8287), .lit (.int .u16 48)], .agg [.lit (.int .u16 12288), .lit (.int .u16 12288), .lit (.int .u16 1)]] [], .nil, .lit (.int .i64 2)])
def laid_strings_asciiSpace {H : Type} : DataW H := .agg [.lit (.int .u8 0), .lit (.int .u8 0), .lit (.int .u8 0), .lit (.int .u8 0), .lit (.int .u8 0), .lit (.int .u8 0), .lit (.int .u8 0), .lit (.int .u8 0), .lit (.int .u8 0), .lit (.int .u8 1), .lit (.int .u8 1), .lit (.int .u8 1), .lit (.int .u8 1), .lit (.int .u8 1), .lit (.int .u8 0), .lit (.int .u8 0), .lit (.int .u8 0), .lit (.int .u8 0), .lit (.int .u8 0), .lit (.int .u8 0), .lit (.int .u8 0), .lit (.int .u8 0), .lit (.int .u8 0), .lit (.int .u8 0), .lit (.int .u8 0), .lit (.int .u8 0), .lit (.int .u8 0), .lit (.int .u8 0), .lit (.int .u8 0), .lit (.int .u8 0), .lit (.int .u8 0), .lit (.int .u8 0), .lit (.int .u8 1), .lit (.int .u8 0), .lit (.int .u8 0), .lit (.int .u8 0), .lit (.int .u8 0), .lit (.int .u8 0), .lit (.int .u8 0), .lit (.int .u8 0), .lit (.int .u8 0), .lit (.int .u8 0), .lit (.int .u8 0), .lit (.int .u8 0), .lit (.int .u8 0), .lit (.int .u8 0), .lit (.int .u8 0), .lit (.int .u8 0), .lit (.int .u8 0), .lit (.int .u8 0), .lit (.int .u8 0), .lit (.int .u8 0), .lit (.int .u8 0), .lit (.int .u8 0), .lit (.int .u8 0), .lit (.int .u8 0), .lit (.int .u8 0), .lit (.int .u8 0), .lit (.int .u8 0), .lit (.int .u8 0), .lit (.int .u8 0), .lit (.int .u8 0), .lit (.int .u8 0), .lit (.int .u8 0), .lit (.int .u8 0), .lit (.int .u8 0), .lit (.int .u8 0), .lit (.int .u8 0), .lit (.int .u8 0), .lit (.int .u8 0), .lit (.int .u8 0), .lit (.int .u8 0), .lit (.int .u8 0), .lit (.int .u8 0), .lit (.int .u8 0), .lit (.int .u8 0), .lit (.int .u8 0), .lit (.int .u8 0), .lit (.int .u8 0), .lit (.int .u8 0), .lit (.int .u8 0), .lit (.int .u8 0), .lit (.int .u8 0), .lit (.int .u8 0), .lit (.int .u8 0), .lit (.int .u8 0), .lit (.int .u8 0), .lit (.int .u8 0), .lit (.int .u8 0), .lit (.int .u8 0), .lit (.int .u8 0), .lit (.int .u8 0), .lit (.int .u8 0), .lit (.int .u8 0), .lit (.int .u8 0), .lit (.int .u8 0), .lit (.int .u8 0), .lit (.int .u8 0), .lit (.int .u8 0), .lit (.int .u8 0), .lit (.int .u8 0), .lit (.int .u8 0), .lit (.int .u8 0), .lit (.int .u8 0), .lit (.int .u8 0), .lit (.int .u8 0), .lit (.int .u8 0), .lit (.int .u8 0), .lit (.int .u8 0), .lit (.int .u8 0), .lit (.int .u8 0), .lit (.int .u8 0), .lit (.int .u8 0), .lit (.int .u8 0), .lit (.int .u8 0), .lit (.int .u8 0), .lit (.int .u8 0), .lit (.int .u8 0), .lit (.int .u8 0), .lit (.int .u8 0), .lit (.int .u8 0), .lit (.int .u8 0), .lit (.int .u8 0), .lit (.int .u8 0), .lit (.int .u8 0), .lit (.int .u8 0), .lit (.int .u8 0), .lit (.int .u8 0), .lit (.int .u8 0), .lit (.int .u8 0), .lit (.int .u8 0), .lit (.int .u8 0), .lit (.int .u8 0), .lit (.int .u8 0), .lit (.int .u8 0), .lit (.int .u8 0), .lit (.int .u8 0), .lit (.int .u8 0), .lit (.int .u8 0), .lit (.int .u8 0), .lit (.int .u8 0), .lit (.int .u8 0), .lit (.int .u8 0), .lit (.int .u8 0), .lit (.int .u8 0), .lit (.int .u8 0), .lit (.int .u8 0), .lit (.int .u8 0), .lit (.int .u8 0), .lit (.int .u8 0), .lit (.int .u8 0), .lit (.int .u8 0), .lit (.int .u8 0), .lit (.int .u8 0), .lit (.int .u8 0), .lit (.int .u8 0), .lit (.int .u8 0), .lit (.int .u8 0), .lit (.int .u8 0), .lit (.int .u8 0), .lit (.int .u8 0), .lit (.int .u8 0), .lit (.int .u8 0), .lit (.int .u8 0), .lit (.int .u8 0), .lit (.int .u8 0), .lit (.int .u8 0), .lit (.int .u8 0), .lit (.int .u8 0), .lit (.int .u8 0), .lit (.int .u8 0), .lit (.int .u8 0), .lit (.int .u8 0), .lit (.int .u8 0), .lit (.int .u8 0), .lit (.int .u8 0), .lit (.int .u8 0), .lit (.int .u8 0), .lit (.int .u8 0), .lit (.int .u8 0), .lit (.int .u8 0), .lit (.int .u8 0), .lit (.int .u8 0), .lit (.int .u8 0), .lit (.int .u8 0), .lit (.int .u8 0), .lit (.int .u8 0), .lit (.int .u8 0), .lit (.int .u8 0), .lit (.int .u8 0), .lit (.int .u8 0), .lit (.int .u8 0), .lit (.int .u8 0), .lit (.int .u8 0), .lit (.int .u8 0), .lit (.int .u8 0), .lit (.int .u8 0), .lit (.int .u8 0), .lit (.int .u8 0), .lit (.int .u8 0), .lit (.int .u8 0), .lit (.int .u8 0), .lit (.int .u8 0), .lit (.int .u8 0), .lit (.int .u8 0), .lit (.int .u8 0), .lit (.int .u8 0), .lit (.int .u8 0), .lit (.int .u8 0), .lit (.int .u8 0), .lit (.int .u8 0), .lit (.int .u8 0), .lit (.int .u8 0), .lit (.int .u8 0), .lit (.int .u8 0), .lit (.int .u8 0), .lit (.int .u8 0), .lit (.int .u8 0), .lit (.int .u8 0), .lit (.int .u8 0), .lit (.int .u8 0), .lit (.int .u8 0), .lit (.int .u8 0), .lit (.int .u8 0), .lit (.int .u8 0), .lit (.int .u8 0), .lit (.int .u8 0), .lit (.int .u8 0), .lit (.int .u8 0), .lit (.int .u8 0), .lit (.int .u8 0), .lit (.int .u8 0), .lit (.int .u8 0), .lit (.int .u8 0), .lit (.int .u8 0), .lit (.int .u8 0), .lit (.int .u8 0), .lit (.int .u8 0), .lit (.int .u8 0), .lit (.int .u8 0), .lit (.int .u8 0), .lit (.int .u8 0), .lit (.int .u8 0), .lit (.int .u8 0), .lit (.int .u8 0), .lit (.int .u8 0), .lit (.int .u8 0), .lit (.int .u8 0), .lit (.int .u8 0), .lit (.int .u8 0), .lit (.int .u8 0), .lit (.int .u8 0), .lit (.int .u8 0), .lit (.int .u8 0), .lit (.int .u8 0), .lit (.int .u8 0)]

/-- 'timetablelaw11.LinkMade': WHATEVER THE INPUT: true; the input reads as it did. -/
def linkMadeSpec : ChangeSpec := { name := "linkMade", fn := fun _ => fun
  | [d1, d2] => { results := [.lit (.bool true)], args := [d1, d2] }
  | _ => none }
def linkMadeRow : OpenClaim := { program := "ytnjkaahbhebaeaagreatdoor", sum := "e29fb3ee64d2784ed9fc47733e0102e529299daea805cfc606cdb9098a9fda2e", func := "timetable/timetablelaw11.LinkMade", spec := "linkMade", unfollowed := true, recurses := true, named := ["strings.asciiSpace", "unicode.White_Space"], plainKeys := false, apart := false, laid := [("unicode.White_Space", laid_unicode_White_Space), ("strings.asciiSpace", laid_strings_asciiSpace)] }
def LinkMadeSaid : Prop := linkMadeRow.holds Tryz.pinned (OpenSpec.ofChange linkMadeSpec)

/-- ITS FALSE NEIGHBOUR: 'it returns false'. Refute it at one input. -/
def linkMadeWrong : ChangeSpec := { name := "linkMade", fn := fun _ => fun
  | [d1, d2] => { results := [.lit (.bool false)], args := [d1, d2] }
  | _ => none }
def LinkMadeWrongFalsely : Prop := linkMadeRow.holds Tryz.pinned (OpenSpec.ofChange linkMadeWrong)

/-- 'timetablelaw11.LinkCalls': WHATEVER THE INPUT: true; the input reads as it did. -/
def linkCallsSpec : ChangeSpec := { name := "linkCalls", fn := fun _ => fun
  | [d1, d2, d3, d4, d5] => { results := [.lit (.bool true)], args := [d1, d2, d3, d4, d5] }
  | _ => none }
def linkCallsRow : OpenClaim := { program := "ytnjkaahbhebaeaagreatdoor", sum := "e29fb3ee64d2784ed9fc47733e0102e529299daea805cfc606cdb9098a9fda2e", func := "timetable/timetablelaw11.LinkCalls", spec := "linkCalls", unfollowed := true, recurses := true, named := ["strings.asciiSpace", "unicode.White_Space"], plainKeys := false, apart := false, laid := [("unicode.White_Space", laid_unicode_White_Space), ("strings.asciiSpace", laid_strings_asciiSpace)] }
def LinkCallsSaid : Prop := linkCallsRow.holds Tryz.pinned (OpenSpec.ofChange linkCallsSpec)

/-- ITS FALSE NEIGHBOUR: 'it returns false'. Refute it at one input. -/
def linkCallsWrong : ChangeSpec := { name := "linkCalls", fn := fun _ => fun
  | [d1, d2, d3, d4, d5] => { results := [.lit (.bool false)], args := [d1, d2, d3, d4, d5] }
  | _ => none }
def LinkCallsWrongFalsely : Prop := linkCallsRow.holds Tryz.pinned (OpenSpec.ofChange linkCallsWrong)

/-- 'timetablelaw16.StateLess': WHATEVER THE INPUT: true; the input reads as it did. -/
def stateLessSpec : ChangeSpec := { name := "stateLess", fn := fun _ => fun
  | [d] => { results := [.lit (.bool true)], args := [d] }
  | _ => none }
def stateLessRow : OpenClaim := { program := "ytnjkaahbhebaeaagreatdoor", sum := "e29fb3ee64d2784ed9fc47733e0102e529299daea805cfc606cdb9098a9fda2e", func := "timetable/timetablelaw16.StateLess", spec := "stateLess", unfollowed := true, recurses := true, named := ["strings.asciiSpace", "unicode.White_Space"], plainKeys := false, apart := false, laid := [("unicode.White_Space", laid_unicode_White_Space), ("strings.asciiSpace", laid_strings_asciiSpace)] }
def StateLessSaid : Prop := stateLessRow.holds Tryz.pinned (OpenSpec.ofChange stateLessSpec)

/-- ITS FALSE NEIGHBOUR: 'it returns false'. Refute it at one input. -/
def stateLessWrong : ChangeSpec := { name := "stateLess", fn := fun _ => fun
  | [d] => { results := [.lit (.bool false)], args := [d] }
  | _ => none }
def StateLessWrongFalsely : Prop := stateLessRow.holds Tryz.pinned (OpenSpec.ofChange stateLessWrong)

/-- 'timetablelaw16.StateGone': WHATEVER THE INPUT: true; the input reads as it did. -/
def stateGoneSpec : ChangeSpec := { name := "stateGone", fn := fun _ => fun
  | [d1, d2] => { results := [.lit (.bool true)], args := [d1, d2] }
  | _ => none }
def stateGoneRow : OpenClaim := { program := "ytnjkaahbhebaeaagreatdoor", sum := "e29fb3ee64d2784ed9fc47733e0102e529299daea805cfc606cdb9098a9fda2e", func := "timetable/timetablelaw16.StateGone", spec := "stateGone", unfollowed := true, recurses := true, named := ["strings.asciiSpace", "unicode.White_Space"], plainKeys := false, apart := false, laid := [("unicode.White_Space", laid_unicode_White_Space), ("strings.asciiSpace", laid_strings_asciiSpace)] }
def StateGoneSaid : Prop := stateGoneRow.holds Tryz.pinned (OpenSpec.ofChange stateGoneSpec)

/-- ITS FALSE NEIGHBOUR: 'it returns false'. Refute it at one input. -/
def stateGoneWrong : ChangeSpec := { name := "stateGone", fn := fun _ => fun
  | [d1, d2] => { results := [.lit (.bool false)], args := [d1, d2] }
  | _ => none }
def StateGoneWrongFalsely : Prop := stateGoneRow.holds Tryz.pinned (OpenSpec.ofChange stateGoneWrong)

/-- 'timetablelaw16.StateRuns': WHATEVER THE INPUT: true; the input reads as it did. -/
def stateRunsSpec : ChangeSpec := { name := "stateRuns", fn := fun _ => fun
  | [d] => { results := [.lit (.bool true)], args := [d] }
  | _ => none }
def stateRunsRow : OpenClaim := { program := "ytnjkaahbhebaeaagreatdoor", sum := "e29fb3ee64d2784ed9fc47733e0102e529299daea805cfc606cdb9098a9fda2e", func := "timetable/timetablelaw16.StateRuns", spec := "stateRuns", unfollowed := true, recurses := true, named := ["strings.asciiSpace", "unicode.White_Space"], plainKeys := false, apart := false, laid := [("unicode.White_Space", laid_unicode_White_Space), ("strings.asciiSpace", laid_strings_asciiSpace)] }
def StateRunsSaid : Prop := stateRunsRow.holds Tryz.pinned (OpenSpec.ofChange stateRunsSpec)

/-- ITS FALSE NEIGHBOUR: 'it returns false'. Refute it at one input. -/
def stateRunsWrong : ChangeSpec := { name := "stateRuns", fn := fun _ => fun
  | [d] => { results := [.lit (.bool false)], args := [d] }
  | _ => none }
def StateRunsWrongFalsely : Prop := stateRunsRow.holds Tryz.pinned (OpenSpec.ofChange stateRunsWrong)

/-- 'timetablelaw16.StatePlain': WHATEVER THE INPUT: true; the input reads as it did. -/
def statePlainSpec : ChangeSpec := { name := "statePlain", fn := fun _ => fun
  | [d1, d2] => { results := [.lit (.bool true)], args := [d1, d2] }
  | _ => none }
def statePlainRow : OpenClaim := { program := "ytnjkaahbhebaeaagreatdoor", sum := "e29fb3ee64d2784ed9fc47733e0102e529299daea805cfc606cdb9098a9fda2e", func := "timetable/timetablelaw16.StatePlain", spec := "statePlain", unfollowed := true, recurses := true, named := ["strings.asciiSpace", "unicode.White_Space"], plainKeys := false, apart := false, laid := [("unicode.White_Space", laid_unicode_White_Space), ("strings.asciiSpace", laid_strings_asciiSpace)] }
def StatePlainSaid : Prop := statePlainRow.holds Tryz.pinned (OpenSpec.ofChange statePlainSpec)

/-- ITS FALSE NEIGHBOUR: 'it returns false'. Refute it at one input. -/
def statePlainWrong : ChangeSpec := { name := "statePlain", fn := fun _ => fun
  | [d1, d2] => { results := [.lit (.bool false)], args := [d1, d2] }
  | _ => none }
def StatePlainWrongFalsely : Prop := statePlainRow.holds Tryz.pinned (OpenSpec.ofChange statePlainWrong)

/-- 'timetablelaw23.JourneyWaits': WHATEVER THE INPUT: true; the input reads as it did. -/
def journeyWaitsSpec : ChangeSpec := { name := "journeyWaits", fn := fun _ => fun
  | [d1, d2, d3, d4] => { results := [.lit (.bool true)], args := [d1, d2, d3, d4] }
  | _ => none }
def journeyWaitsRow : OpenClaim := { program := "ytnjkaahbhebaeaagreatdoor", sum := "e29fb3ee64d2784ed9fc47733e0102e529299daea805cfc606cdb9098a9fda2e", func := "timetable/timetablelaw23.JourneyWaits", spec := "journeyWaits", unfollowed := true, recurses := true, named := ["strings.asciiSpace", "unicode.White_Space"], plainKeys := false, apart := false, laid := [("unicode.White_Space", laid_unicode_White_Space), ("strings.asciiSpace", laid_strings_asciiSpace)] }
def JourneyWaitsSaid : Prop := journeyWaitsRow.holds Tryz.pinned (OpenSpec.ofChange journeyWaitsSpec)

/-- ITS FALSE NEIGHBOUR: 'it returns false'. Refute it at one input. -/
def journeyWaitsWrong : ChangeSpec := { name := "journeyWaits", fn := fun _ => fun
  | [d1, d2, d3, d4] => { results := [.lit (.bool false)], args := [d1, d2, d3, d4] }
  | _ => none }
def JourneyWaitsWrongFalsely : Prop := journeyWaitsRow.holds Tryz.pinned (OpenSpec.ofChange journeyWaitsWrong)

/-- 'timetablelaw23.JourneyJoins': WHATEVER THE INPUT: true; the input reads as it did. -/
def journeyJoinsSpec : ChangeSpec := { name := "journeyJoins", fn := fun _ => fun
  | [d1, d2, d3, d4] => { results := [.lit (.bool true)], args := [d1, d2, d3, d4] }
  | _ => none }
def journeyJoinsRow : OpenClaim := { program := "ytnjkaahbhebaeaagreatdoor", sum := "e29fb3ee64d2784ed9fc47733e0102e529299daea805cfc606cdb9098a9fda2e", func := "timetable/timetablelaw23.JourneyJoins", spec := "journeyJoins", unfollowed := true, recurses := true, named := ["strings.asciiSpace", "unicode.White_Space"], plainKeys := false, apart := false, laid := [("unicode.White_Space", laid_unicode_White_Space), ("strings.asciiSpace", laid_strings_asciiSpace)] }
def JourneyJoinsSaid : Prop := journeyJoinsRow.holds Tryz.pinned (OpenSpec.ofChange journeyJoinsSpec)

/-- ITS FALSE NEIGHBOUR: 'it returns false'. Refute it at one input. -/
def journeyJoinsWrong : ChangeSpec := { name := "journeyJoins", fn := fun _ => fun
  | [d1, d2, d3, d4] => { results := [.lit (.bool false)], args := [d1, d2, d3, d4] }
  | _ => none }
def JourneyJoinsWrongFalsely : Prop := journeyJoinsRow.holds Tryz.pinned (OpenSpec.ofChange journeyJoinsWrong)

/- THE SECOND FORM. 'bulk': how many values and letters a reading holds, each counted each time it is reached (what is shared counts as often as it is met; a slice's spare places count too). A statement '..UptoSaid' is the law's where the arguments, and the package variables that the reading takes, are together of bulk at most 1048576: NARROWER than '..Said'. Prove '..Said' where nothing that the law and all that it calls make is longer than what came in: it says more and counts as full. Else prove '..UptoSaid'. A law counts once. -/
mutual
def uptoBulk {H : Type} : DataW H → Nat
  | .lit (.string bytes) => bytes.length + 1
  | .lit _ => 1
  | .nil => 1
  | .ptr d => uptoBulk d + 1
  | .slice elems spare => uptoBulkAll elems + uptoBulkAll spare + 1
  | .agg parts => uptoBulkAll parts + 1
  | .iface _ d => uptoBulk d + 1
  | .map entries => uptoBulkEntries entries + 1
  | .held _ => 1
def uptoBulkAll {H : Type} : List (DataW H) → Nat
  | [] => 0
  | d :: r => uptoBulk d + uptoBulkAll r
def uptoBulkEntries {H : Type} : List (Lit × DataW H) → Nat
  | [] => 0
  | x :: r => uptoBulkEntry x + uptoBulkEntries r
def uptoBulkEntry {H : Type} : Lit × DataW H → Nat
  | (.string bytes, d) => bytes.length + uptoBulk d + 1
  | (_, d) => uptoBulk d + 1
 end
def uptoSmall : (H : Type) → List (DataW H) → Bool := fun _ ds => decide (uptoBulkAll ds ≤ 1048576)
def OpenSpec.upto (s : _root_.Go.ChangeSpec) : _root_.Go.OpenSpec := { _root_.Go.OpenSpec.ofChange s with cond := some uptoSmall }

/-- 'timetablelaw11.LinkMade', WHERE WHAT IT READS IS OF BULK AT MOST 1048576: true; the input reads as it did. -/
def linkMadeUptoRow : OpenClaim := { program := "ytnjkaahbhebaeaagreatdoor", sum := "e29fb3ee64d2784ed9fc47733e0102e529299daea805cfc606cdb9098a9fda2e", func := "timetable/timetablelaw11.LinkMade", spec := "linkMade", unfollowed := true, recurses := true, named := ["strings.asciiSpace", "unicode.White_Space"], plainKeys := false, apart := false, laid := [("unicode.White_Space", laid_unicode_White_Space), ("strings.asciiSpace", laid_strings_asciiSpace)], narrowed := true }
def LinkMadeUptoSaid : Prop := linkMadeUptoRow.holds Tryz.pinned (OpenSpec.upto linkMadeSpec)

/-- 'timetablelaw11.LinkCalls', WHERE WHAT IT READS IS OF BULK AT MOST 1048576: true; the input reads as it did. -/
def linkCallsUptoRow : OpenClaim := { program := "ytnjkaahbhebaeaagreatdoor", sum := "e29fb3ee64d2784ed9fc47733e0102e529299daea805cfc606cdb9098a9fda2e", func := "timetable/timetablelaw11.LinkCalls", spec := "linkCalls", unfollowed := true, recurses := true, named := ["strings.asciiSpace", "unicode.White_Space"], plainKeys := false, apart := false, laid := [("unicode.White_Space", laid_unicode_White_Space), ("strings.asciiSpace", laid_strings_asciiSpace)], narrowed := true }
def LinkCallsUptoSaid : Prop := linkCallsUptoRow.holds Tryz.pinned (OpenSpec.upto linkCallsSpec)

/-- 'timetablelaw16.StateLess', WHERE WHAT IT READS IS OF BULK AT MOST 1048576: true; the input reads as it did. -/
def stateLessUptoRow : OpenClaim := { program := "ytnjkaahbhebaeaagreatdoor", sum := "e29fb3ee64d2784ed9fc47733e0102e529299daea805cfc606cdb9098a9fda2e", func := "timetable/timetablelaw16.StateLess", spec := "stateLess", unfollowed := true, recurses := true, named := ["strings.asciiSpace", "unicode.White_Space"], plainKeys := false, apart := false, laid := [("unicode.White_Space", laid_unicode_White_Space), ("strings.asciiSpace", laid_strings_asciiSpace)], narrowed := true }
def StateLessUptoSaid : Prop := stateLessUptoRow.holds Tryz.pinned (OpenSpec.upto stateLessSpec)

/-- 'timetablelaw16.StateGone', WHERE WHAT IT READS IS OF BULK AT MOST 1048576: true; the input reads as it did. -/
def stateGoneUptoRow : OpenClaim := { program := "ytnjkaahbhebaeaagreatdoor", sum := "e29fb3ee64d2784ed9fc47733e0102e529299daea805cfc606cdb9098a9fda2e", func := "timetable/timetablelaw16.StateGone", spec := "stateGone", unfollowed := true, recurses := true, named := ["strings.asciiSpace", "unicode.White_Space"], plainKeys := false, apart := false, laid := [("unicode.White_Space", laid_unicode_White_Space), ("strings.asciiSpace", laid_strings_asciiSpace)], narrowed := true }
def StateGoneUptoSaid : Prop := stateGoneUptoRow.holds Tryz.pinned (OpenSpec.upto stateGoneSpec)

/-- 'timetablelaw16.StateRuns', WHERE WHAT IT READS IS OF BULK AT MOST 1048576: true; the input reads as it did. -/
def stateRunsUptoRow : OpenClaim := { program := "ytnjkaahbhebaeaagreatdoor", sum := "e29fb3ee64d2784ed9fc47733e0102e529299daea805cfc606cdb9098a9fda2e", func := "timetable/timetablelaw16.StateRuns", spec := "stateRuns", unfollowed := true, recurses := true, named := ["strings.asciiSpace", "unicode.White_Space"], plainKeys := false, apart := false, laid := [("unicode.White_Space", laid_unicode_White_Space), ("strings.asciiSpace", laid_strings_asciiSpace)], narrowed := true }
def StateRunsUptoSaid : Prop := stateRunsUptoRow.holds Tryz.pinned (OpenSpec.upto stateRunsSpec)

/-- 'timetablelaw16.StatePlain', WHERE WHAT IT READS IS OF BULK AT MOST 1048576: true; the input reads as it did. -/
def statePlainUptoRow : OpenClaim := { program := "ytnjkaahbhebaeaagreatdoor", sum := "e29fb3ee64d2784ed9fc47733e0102e529299daea805cfc606cdb9098a9fda2e", func := "timetable/timetablelaw16.StatePlain", spec := "statePlain", unfollowed := true, recurses := true, named := ["strings.asciiSpace", "unicode.White_Space"], plainKeys := false, apart := false, laid := [("unicode.White_Space", laid_unicode_White_Space), ("strings.asciiSpace", laid_strings_asciiSpace)], narrowed := true }
def StatePlainUptoSaid : Prop := statePlainUptoRow.holds Tryz.pinned (OpenSpec.upto statePlainSpec)

/-- 'timetablelaw23.JourneyWaits', WHERE WHAT IT READS IS OF BULK AT MOST 1048576: true; the input reads as it did. -/
def journeyWaitsUptoRow : OpenClaim := { program := "ytnjkaahbhebaeaagreatdoor", sum := "e29fb3ee64d2784ed9fc47733e0102e529299daea805cfc606cdb9098a9fda2e", func := "timetable/timetablelaw23.JourneyWaits", spec := "journeyWaits", unfollowed := true, recurses := true, named := ["strings.asciiSpace", "unicode.White_Space"], plainKeys := false, apart := false, laid := [("unicode.White_Space", laid_unicode_White_Space), ("strings.asciiSpace", laid_strings_asciiSpace)], narrowed := true }
def JourneyWaitsUptoSaid : Prop := journeyWaitsUptoRow.holds Tryz.pinned (OpenSpec.upto journeyWaitsSpec)

/-- 'timetablelaw23.JourneyJoins', WHERE WHAT IT READS IS OF BULK AT MOST 1048576: true; the input reads as it did. -/
def journeyJoinsUptoRow : OpenClaim := { program := "ytnjkaahbhebaeaagreatdoor", sum := "e29fb3ee64d2784ed9fc47733e0102e529299daea805cfc606cdb9098a9fda2e", func := "timetable/timetablelaw23.JourneyJoins", spec := "journeyJoins", unfollowed := true, recurses := true, named := ["strings.asciiSpace", "unicode.White_Space"], plainKeys := false, apart := false, laid := [("unicode.White_Space", laid_unicode_White_Space), ("strings.asciiSpace", laid_strings_asciiSpace)], narrowed := true }
def JourneyJoinsUptoSaid : Prop := journeyJoinsUptoRow.holds Tryz.pinned (OpenSpec.upto journeyJoinsSpec)

end Rows
end Go.Proofs.YtnjkaahbhebaeaaGreatDoor
