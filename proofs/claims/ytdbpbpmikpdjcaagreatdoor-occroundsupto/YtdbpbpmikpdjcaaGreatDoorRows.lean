/-
  NARROWER THAN 'FOR EVERY INPUT', by the rows' own cells (each row's printed sentence says how): OccRounds: loops, laid · SerialOnes: loops, laid · SerialRetries: loops, laid · SerialBatches: loops, laid · SerialReconCommits: loops, laid · SerialStays: loops, laid · SerialEnds: loops, laid · SerialRounds: loops, laid · SerialSplits: loops, laid · SerialFinds: loops, laid.
  DERIVED. THE GIVEN ROWS OF THIS SEAT. 10 by the template 'for every input the law returns true; each argument reads behind the call as it read before'; 0 by the template 'total and deterministic' (their statements: YtdbpbpmikpdjcaaGreatDoorTotals.lean).
  GIVEN WITH THE SEED: the statements are not yours to turn. If you find one false, say at which input.
  Laid BY PROGRAM, IN A SANDBOX (cutbox-rows.mjs): the forced cells as the released guide's own fill.sh prints them over the translation 1c087d91f5b0db10… (all of the seat's roots in one cut). By AI agents, Wed Nov 11 2026. No macro, syntax, notation, axiom, sorry.
-/
import Derived.Test.YtdbpbpmikpdjcaaGreatDoorChecked
import GoSem.Claim
import GoSem.ClaimJoined
import GoSem.ClaimMapViews
import Derived.JoinedTies
import Derived.KernelRfl
namespace Go.Proofs.YtdbpbpmikpdjcaaGreatDoor
/- THE CELL 'sum', in the pinned program and in every row, IS THE sha256 OF THE DUMP (.gsa) THAT YtdbpbpmikpdjcaaGreatDoorProg.lean LOADS. Nothing in Lean hashes anything: it is a label: what it is worth is what the hold of that sum in a sandbox is worth. -/
noncomputable def Tryz.pinned : Pinned := { name := "ytdbpbpmikpdjcaagreatdoor", sum := "1c087d91f5b0db10c6cbaa55fc4243a4b848c52838691c6898e0274272f3546c", checked := Tryz.checked }
namespace Rows
def none {H : Type} : Left H := { results := [], args := [] }

/- WHAT THE LISTED PACKAGE-LEVEL VARIABLES READ AS WHEN THE CALL BEGINS. Each datum BY PROGRAM (the guide's laid-datum.mjs) off the statement by which the dump's own 'gosem.cut.vars' lays the variable. In a bare row this is a premise. The card (YtdbpbpmikpdjcaaGreatDoorCards.lean) ties it to the program's text. -/
def laid_math_bits_deBruijn32tab {H : Type} : DataW H := .agg [.lit (.int .u8 0), .lit (.int .u8 1), .lit (.int .u8 28), .lit (.int .u8 2), .lit (.int .u8 29), .lit (.int .u8 14), .lit (.int .u8 24), .lit (.int .u8 3), .lit (.int .u8 30), .lit (.int .u8 22), .lit (.int .u8 20), .lit (.int .u8 15), .lit (.int .u8 25), .lit (.int .u8 17), .lit (.int .u8 4), .lit (.int .u8 8), .lit (.int .u8 31), .lit (.int .u8 27), .lit (.int .u8 13), .lit (.int .u8 23), .lit (.int .u8 21), .lit (.int .u8 19), .lit (.int .u8 16), .lit (.int .u8 7), .lit (.int .u8 26), .lit (.int .u8 12), .lit (.int .u8 18), .lit (.int .u8 6), .lit (.int .u8 11), .lit (.int .u8 5), .lit (.int .u8 10), .lit (.int .u8 9)]
def laid_math_bits_deBruijn64tab {H : Type} : DataW H := .agg [.lit (.int .u8 0), .lit (.int .u8 1), .lit (.int .u8 56), .lit (.int .u8 2), .lit (.int .u8 57), .lit (.int .u8 49), .lit (.int .u8 28), .lit (.int .u8 3), .lit (.int .u8 61), .lit (.int .u8 58), .lit (.int .u8 42), .lit (.int .u8 50), .lit (.int .u8 38), .lit (.int .u8 29), .lit (.int .u8 17), .lit (.int .u8 4), .lit (.int .u8 62), .lit (.int .u8 47), .lit (.int .u8 59), .lit (.int .u8 36), .lit (.int .u8 45), .lit (.int .u8 43), .lit (.int .u8 51), .lit (.int .u8 22), .lit (.int .u8 53), .lit (.int .u8 39), .lit (.int .u8 33), .lit (.int .u8 30), .lit (.int .u8 24), .lit (.int .u8 18), .lit (.int .u8 12), .lit (.int .u8 5), .lit (.int .u8 63), .lit (.int .u8 55), .lit (.int .u8 48), .lit (.int .u8 27), .lit (.int .u8 60), .lit (.int .u8 41), .lit (.int .u8 37), .lit (.int .u8 16), .lit (.int .u8 46), .lit (.int .u8 35), .lit (.int .u8 44), .lit (.int .u8 21), .lit (.int .u8 52), .lit (.int .u8 32), .lit (.int .u8 23), .lit (.int .u8 11), .lit (.int .u8 54), .lit (.int .u8 26), .lit (.int .u8 40), .lit (.int .u8 15), .lit (.int .u8 34), .lit (.int .u8 20), .lit (.int .u8 31), .lit (.int .u8 10), .lit (.int .u8 25), .lit (.int .u8 14), .lit (.int .u8 19), .lit (.int .u8 9), .lit (.int .u8 13), .lit (.int .u8 8), .lit (.int .u8 7), .lit (.int .u8 6)]
def laid_internal_strconv_uint64pow10 {H : Type} : DataW H := .agg [.lit (.int .u64 1), .lit (.int .u64 10), .lit (.int .u64 100), .lit (.int .u64 1000), .lit (.int .u64 10000), .lit (.int .u64 100000), .lit (.int .u64 1000000), .lit (.int .u64 10000000), .lit (.int .u64 100000000), .lit (.int .u64 1000000000), .lit (.int .u64 10000000000), .lit (.int .u64 100000000000), .lit (.int .u64 1000000000000), .lit (.int .u64 10000000000000), .lit (.int .u64 100000000000000), .lit (.int .u64 1000000000000000), .lit (.int .u64 10000000000000000), .lit (.int .u64 100000000000000000), .lit (.int .u64 1000000000000000000), .lit (.int .u64 10000000000000000000)]

/-- 'clockworklaw27.OccRounds': WHATEVER THE INPUT: true; the input reads as it did. -/
def occRoundsSpec : ChangeSpec := { name := "occRounds", fn := fun _ => fun
  | [d] => { results := [.lit (.bool true)], args := [d] }
  | _ => none }
def occRoundsRow : OpenClaim := { program := "ytdbpbpmikpdjcaagreatdoor", sum := "1c087d91f5b0db10c6cbaa55fc4243a4b848c52838691c6898e0274272f3546c", func := "clockwork/clockworklaw27.OccRounds", spec := "occRounds", inPlace := ["slices.overlaps[string]", "internal/bytealg.abigen_runtime_cmpstring"], unfollowed := true, recurses := true, named := ["internal/strconv.uint64pow10", "math/bits.deBruijn32tab", "math/bits.deBruijn64tab"], loops := true, apart := false, laid := [("math/bits.deBruijn32tab", laid_math_bits_deBruijn32tab), ("math/bits.deBruijn64tab", laid_math_bits_deBruijn64tab), ("internal/strconv.uint64pow10", laid_internal_strconv_uint64pow10)] }
def OccRoundsSaid : Prop := occRoundsRow.holds Tryz.pinned (OpenSpec.ofChange occRoundsSpec)

/-- ITS FALSE NEIGHBOUR: 'it returns false'. Refute it at one input. -/
def occRoundsWrong : ChangeSpec := { name := "occRounds", fn := fun _ => fun
  | [d] => { results := [.lit (.bool false)], args := [d] }
  | _ => none }
def OccRoundsWrongFalsely : Prop := occRoundsRow.holds Tryz.pinned (OpenSpec.ofChange occRoundsWrong)

/-- 'clockworklaw21.SerialOnes': WHATEVER THE INPUT: true; the input reads as it did. -/
def serialOnesSpec : ChangeSpec := { name := "serialOnes", fn := fun _ => fun
  | [d1, d2, d3] => { results := [.lit (.bool true)], args := [d1, d2, d3] }
  | _ => none }
def serialOnesRow : OpenClaim := { program := "ytdbpbpmikpdjcaagreatdoor", sum := "1c087d91f5b0db10c6cbaa55fc4243a4b848c52838691c6898e0274272f3546c", func := "clockwork/clockworklaw21.SerialOnes", spec := "serialOnes", inPlace := ["slices.overlaps[string]", "internal/bytealg.abigen_runtime_cmpstring"], unfollowed := true, recurses := true, named := ["internal/strconv.uint64pow10", "math/bits.deBruijn32tab", "math/bits.deBruijn64tab"], loops := true, apart := false, laid := [("math/bits.deBruijn32tab", laid_math_bits_deBruijn32tab), ("math/bits.deBruijn64tab", laid_math_bits_deBruijn64tab), ("internal/strconv.uint64pow10", laid_internal_strconv_uint64pow10)] }
def SerialOnesSaid : Prop := serialOnesRow.holds Tryz.pinned (OpenSpec.ofChange serialOnesSpec)

/-- ITS FALSE NEIGHBOUR: 'it returns false'. Refute it at one input. -/
def serialOnesWrong : ChangeSpec := { name := "serialOnes", fn := fun _ => fun
  | [d1, d2, d3] => { results := [.lit (.bool false)], args := [d1, d2, d3] }
  | _ => none }
def SerialOnesWrongFalsely : Prop := serialOnesRow.holds Tryz.pinned (OpenSpec.ofChange serialOnesWrong)

/-- 'clockworklaw21.SerialRetries': WHATEVER THE INPUT: true; the input reads as it did. -/
def serialRetriesSpec : ChangeSpec := { name := "serialRetries", fn := fun _ => fun
  | [d1, d2, d3] => { results := [.lit (.bool true)], args := [d1, d2, d3] }
  | _ => none }
def serialRetriesRow : OpenClaim := { program := "ytdbpbpmikpdjcaagreatdoor", sum := "1c087d91f5b0db10c6cbaa55fc4243a4b848c52838691c6898e0274272f3546c", func := "clockwork/clockworklaw21.SerialRetries", spec := "serialRetries", inPlace := ["slices.overlaps[string]", "internal/bytealg.abigen_runtime_cmpstring"], unfollowed := true, recurses := true, named := ["internal/strconv.uint64pow10", "math/bits.deBruijn32tab", "math/bits.deBruijn64tab"], loops := true, apart := false, laid := [("math/bits.deBruijn32tab", laid_math_bits_deBruijn32tab), ("math/bits.deBruijn64tab", laid_math_bits_deBruijn64tab), ("internal/strconv.uint64pow10", laid_internal_strconv_uint64pow10)] }
def SerialRetriesSaid : Prop := serialRetriesRow.holds Tryz.pinned (OpenSpec.ofChange serialRetriesSpec)

/-- ITS FALSE NEIGHBOUR: 'it returns false'. Refute it at one input. -/
def serialRetriesWrong : ChangeSpec := { name := "serialRetries", fn := fun _ => fun
  | [d1, d2, d3] => { results := [.lit (.bool false)], args := [d1, d2, d3] }
  | _ => none }
def SerialRetriesWrongFalsely : Prop := serialRetriesRow.holds Tryz.pinned (OpenSpec.ofChange serialRetriesWrong)

/-- 'clockworklaw21.SerialBatches': WHATEVER THE INPUT: true; the input reads as it did. -/
def serialBatchesSpec : ChangeSpec := { name := "serialBatches", fn := fun _ => fun
  | [d1, d2, d3] => { results := [.lit (.bool true)], args := [d1, d2, d3] }
  | _ => none }
def serialBatchesRow : OpenClaim := { program := "ytdbpbpmikpdjcaagreatdoor", sum := "1c087d91f5b0db10c6cbaa55fc4243a4b848c52838691c6898e0274272f3546c", func := "clockwork/clockworklaw21.SerialBatches", spec := "serialBatches", inPlace := ["slices.overlaps[string]", "internal/bytealg.abigen_runtime_cmpstring"], unfollowed := true, recurses := true, named := ["internal/strconv.uint64pow10", "math/bits.deBruijn32tab", "math/bits.deBruijn64tab"], loops := true, apart := false, laid := [("math/bits.deBruijn32tab", laid_math_bits_deBruijn32tab), ("math/bits.deBruijn64tab", laid_math_bits_deBruijn64tab), ("internal/strconv.uint64pow10", laid_internal_strconv_uint64pow10)] }
def SerialBatchesSaid : Prop := serialBatchesRow.holds Tryz.pinned (OpenSpec.ofChange serialBatchesSpec)

/-- ITS FALSE NEIGHBOUR: 'it returns false'. Refute it at one input. -/
def serialBatchesWrong : ChangeSpec := { name := "serialBatches", fn := fun _ => fun
  | [d1, d2, d3] => { results := [.lit (.bool false)], args := [d1, d2, d3] }
  | _ => none }
def SerialBatchesWrongFalsely : Prop := serialBatchesRow.holds Tryz.pinned (OpenSpec.ofChange serialBatchesWrong)

/-- 'clockworklaw21.SerialReconCommits': WHATEVER THE INPUT: true; the input reads as it did. -/
def serialReconCommitsSpec : ChangeSpec := { name := "serialReconCommits", fn := fun _ => fun
  | [d1, d2, d3] => { results := [.lit (.bool true)], args := [d1, d2, d3] }
  | _ => none }
def serialReconCommitsRow : OpenClaim := { program := "ytdbpbpmikpdjcaagreatdoor", sum := "1c087d91f5b0db10c6cbaa55fc4243a4b848c52838691c6898e0274272f3546c", func := "clockwork/clockworklaw21.SerialReconCommits", spec := "serialReconCommits", inPlace := ["slices.overlaps[string]", "internal/bytealg.abigen_runtime_cmpstring"], unfollowed := true, recurses := true, named := ["internal/strconv.uint64pow10", "math/bits.deBruijn32tab", "math/bits.deBruijn64tab"], loops := true, apart := false, laid := [("math/bits.deBruijn32tab", laid_math_bits_deBruijn32tab), ("math/bits.deBruijn64tab", laid_math_bits_deBruijn64tab), ("internal/strconv.uint64pow10", laid_internal_strconv_uint64pow10)] }
def SerialReconCommitsSaid : Prop := serialReconCommitsRow.holds Tryz.pinned (OpenSpec.ofChange serialReconCommitsSpec)

/-- ITS FALSE NEIGHBOUR: 'it returns false'. Refute it at one input. -/
def serialReconCommitsWrong : ChangeSpec := { name := "serialReconCommits", fn := fun _ => fun
  | [d1, d2, d3] => { results := [.lit (.bool false)], args := [d1, d2, d3] }
  | _ => none }
def SerialReconCommitsWrongFalsely : Prop := serialReconCommitsRow.holds Tryz.pinned (OpenSpec.ofChange serialReconCommitsWrong)

/-- 'clockworklaw21.SerialStays': WHATEVER THE INPUT: true; the input reads as it did. -/
def serialStaysSpec : ChangeSpec := { name := "serialStays", fn := fun _ => fun
  | [d1, d2, d3] => { results := [.lit (.bool true)], args := [d1, d2, d3] }
  | _ => none }
def serialStaysRow : OpenClaim := { program := "ytdbpbpmikpdjcaagreatdoor", sum := "1c087d91f5b0db10c6cbaa55fc4243a4b848c52838691c6898e0274272f3546c", func := "clockwork/clockworklaw21.SerialStays", spec := "serialStays", inPlace := ["slices.overlaps[string]", "internal/bytealg.abigen_runtime_cmpstring"], unfollowed := true, recurses := true, named := ["internal/strconv.uint64pow10", "math/bits.deBruijn32tab", "math/bits.deBruijn64tab"], loops := true, apart := false, laid := [("math/bits.deBruijn32tab", laid_math_bits_deBruijn32tab), ("math/bits.deBruijn64tab", laid_math_bits_deBruijn64tab), ("internal/strconv.uint64pow10", laid_internal_strconv_uint64pow10)] }
def SerialStaysSaid : Prop := serialStaysRow.holds Tryz.pinned (OpenSpec.ofChange serialStaysSpec)

/-- ITS FALSE NEIGHBOUR: 'it returns false'. Refute it at one input. -/
def serialStaysWrong : ChangeSpec := { name := "serialStays", fn := fun _ => fun
  | [d1, d2, d3] => { results := [.lit (.bool false)], args := [d1, d2, d3] }
  | _ => none }
def SerialStaysWrongFalsely : Prop := serialStaysRow.holds Tryz.pinned (OpenSpec.ofChange serialStaysWrong)

/-- 'clockworklaw21.SerialEnds': WHATEVER THE INPUT: true; the input reads as it did. -/
def serialEndsSpec : ChangeSpec := { name := "serialEnds", fn := fun _ => fun
  | [d1, d2, d3] => { results := [.lit (.bool true)], args := [d1, d2, d3] }
  | _ => none }
def serialEndsRow : OpenClaim := { program := "ytdbpbpmikpdjcaagreatdoor", sum := "1c087d91f5b0db10c6cbaa55fc4243a4b848c52838691c6898e0274272f3546c", func := "clockwork/clockworklaw21.SerialEnds", spec := "serialEnds", inPlace := ["slices.overlaps[string]", "internal/bytealg.abigen_runtime_cmpstring"], unfollowed := true, recurses := true, named := ["internal/strconv.uint64pow10", "math/bits.deBruijn32tab", "math/bits.deBruijn64tab"], loops := true, apart := false, laid := [("math/bits.deBruijn32tab", laid_math_bits_deBruijn32tab), ("math/bits.deBruijn64tab", laid_math_bits_deBruijn64tab), ("internal/strconv.uint64pow10", laid_internal_strconv_uint64pow10)] }
def SerialEndsSaid : Prop := serialEndsRow.holds Tryz.pinned (OpenSpec.ofChange serialEndsSpec)

/-- ITS FALSE NEIGHBOUR: 'it returns false'. Refute it at one input. -/
def serialEndsWrong : ChangeSpec := { name := "serialEnds", fn := fun _ => fun
  | [d1, d2, d3] => { results := [.lit (.bool false)], args := [d1, d2, d3] }
  | _ => none }
def SerialEndsWrongFalsely : Prop := serialEndsRow.holds Tryz.pinned (OpenSpec.ofChange serialEndsWrong)

/-- 'clockworklaw21.SerialRounds': WHATEVER THE INPUT: true; the input reads as it did. -/
def serialRoundsSpec : ChangeSpec := { name := "serialRounds", fn := fun _ => fun
  | [d1, d2, d3] => { results := [.lit (.bool true)], args := [d1, d2, d3] }
  | _ => none }
def serialRoundsRow : OpenClaim := { program := "ytdbpbpmikpdjcaagreatdoor", sum := "1c087d91f5b0db10c6cbaa55fc4243a4b848c52838691c6898e0274272f3546c", func := "clockwork/clockworklaw21.SerialRounds", spec := "serialRounds", inPlace := ["slices.overlaps[string]", "internal/bytealg.abigen_runtime_cmpstring"], unfollowed := true, recurses := true, named := ["internal/strconv.uint64pow10", "math/bits.deBruijn32tab", "math/bits.deBruijn64tab"], loops := true, apart := false, laid := [("math/bits.deBruijn32tab", laid_math_bits_deBruijn32tab), ("math/bits.deBruijn64tab", laid_math_bits_deBruijn64tab), ("internal/strconv.uint64pow10", laid_internal_strconv_uint64pow10)] }
def SerialRoundsSaid : Prop := serialRoundsRow.holds Tryz.pinned (OpenSpec.ofChange serialRoundsSpec)

/-- ITS FALSE NEIGHBOUR: 'it returns false'. Refute it at one input. -/
def serialRoundsWrong : ChangeSpec := { name := "serialRounds", fn := fun _ => fun
  | [d1, d2, d3] => { results := [.lit (.bool false)], args := [d1, d2, d3] }
  | _ => none }
def SerialRoundsWrongFalsely : Prop := serialRoundsRow.holds Tryz.pinned (OpenSpec.ofChange serialRoundsWrong)

/-- 'clockworklaw21.SerialSplits': WHATEVER THE INPUT: true; the input reads as it did. -/
def serialSplitsSpec : ChangeSpec := { name := "serialSplits", fn := fun _ => fun
  | [d1, d2, d3, d4] => { results := [.lit (.bool true)], args := [d1, d2, d3, d4] }
  | _ => none }
def serialSplitsRow : OpenClaim := { program := "ytdbpbpmikpdjcaagreatdoor", sum := "1c087d91f5b0db10c6cbaa55fc4243a4b848c52838691c6898e0274272f3546c", func := "clockwork/clockworklaw21.SerialSplits", spec := "serialSplits", inPlace := ["slices.overlaps[string]", "internal/bytealg.abigen_runtime_cmpstring"], unfollowed := true, recurses := true, named := ["internal/strconv.uint64pow10", "math/bits.deBruijn32tab", "math/bits.deBruijn64tab"], loops := true, apart := false, laid := [("math/bits.deBruijn32tab", laid_math_bits_deBruijn32tab), ("math/bits.deBruijn64tab", laid_math_bits_deBruijn64tab), ("internal/strconv.uint64pow10", laid_internal_strconv_uint64pow10)] }
def SerialSplitsSaid : Prop := serialSplitsRow.holds Tryz.pinned (OpenSpec.ofChange serialSplitsSpec)

/-- ITS FALSE NEIGHBOUR: 'it returns false'. Refute it at one input. -/
def serialSplitsWrong : ChangeSpec := { name := "serialSplits", fn := fun _ => fun
  | [d1, d2, d3, d4] => { results := [.lit (.bool false)], args := [d1, d2, d3, d4] }
  | _ => none }
def SerialSplitsWrongFalsely : Prop := serialSplitsRow.holds Tryz.pinned (OpenSpec.ofChange serialSplitsWrong)

/-- 'clockworklaw21.SerialFinds': WHATEVER THE INPUT: true; the input reads as it did. -/
def serialFindsSpec : ChangeSpec := { name := "serialFinds", fn := fun _ => fun
  | [d1, d2, d3] => { results := [.lit (.bool true)], args := [d1, d2, d3] }
  | _ => none }
def serialFindsRow : OpenClaim := { program := "ytdbpbpmikpdjcaagreatdoor", sum := "1c087d91f5b0db10c6cbaa55fc4243a4b848c52838691c6898e0274272f3546c", func := "clockwork/clockworklaw21.SerialFinds", spec := "serialFinds", inPlace := ["slices.overlaps[string]", "internal/bytealg.abigen_runtime_cmpstring"], unfollowed := true, recurses := true, named := ["internal/strconv.uint64pow10", "math/bits.deBruijn32tab", "math/bits.deBruijn64tab"], loops := true, apart := false, laid := [("math/bits.deBruijn32tab", laid_math_bits_deBruijn32tab), ("math/bits.deBruijn64tab", laid_math_bits_deBruijn64tab), ("internal/strconv.uint64pow10", laid_internal_strconv_uint64pow10)] }
def SerialFindsSaid : Prop := serialFindsRow.holds Tryz.pinned (OpenSpec.ofChange serialFindsSpec)

/-- ITS FALSE NEIGHBOUR: 'it returns false'. Refute it at one input. -/
def serialFindsWrong : ChangeSpec := { name := "serialFinds", fn := fun _ => fun
  | [d1, d2, d3] => { results := [.lit (.bool false)], args := [d1, d2, d3] }
  | _ => none }
def SerialFindsWrongFalsely : Prop := serialFindsRow.holds Tryz.pinned (OpenSpec.ofChange serialFindsWrong)

/- THE SECOND FORM. 'bulk': how many values and letters a reading holds, each counted each time it is reached (what is shared counts as often as it is met; a slice's spare places count too). A statement '..UptoSaid' is the law's where the arguments, and the package variables that the reading takes, are together of bulk at most 1048576: NARROWER than '..Said'. Prove '..Said' where nothing that the law and all that it calls make is longer than what came in: it says more and counts as full. Else prove '..UptoSaid'. A law counts once. -/
mutual
def uptoBulk {H : Type} : DataW H → Nat
  | .lit (.string bytes) => bytes.length + 1
  | .lit _ => 1
  | .nil => 1
  | .ptr d => uptoBulk d + 1
  | .slice elems spare => uptoBulkAll elems + uptoBulkAll spare + 1
  | .agg parts => uptoBulkAll parts + 1
  | .iface _ d => uptoBulk d + 1
  | .map entries => uptoBulkEntries entries + 1
  | .held _ => 1
def uptoBulkAll {H : Type} : List (DataW H) → Nat
  | [] => 0
  | d :: r => uptoBulk d + uptoBulkAll r
def uptoBulkEntries {H : Type} : List (Lit × DataW H) → Nat
  | [] => 0
  | x :: r => uptoBulkEntry x + uptoBulkEntries r
def uptoBulkEntry {H : Type} : Lit × DataW H → Nat
  | (.string bytes, d) => bytes.length + uptoBulk d + 1
  | (_, d) => uptoBulk d + 1
 end
def uptoSmall : (H : Type) → List (DataW H) → Bool := fun _ ds => decide (uptoBulkAll ds ≤ 1048576)
def OpenSpec.upto (s : _root_.Go.ChangeSpec) : _root_.Go.OpenSpec := { _root_.Go.OpenSpec.ofChange s with cond := some uptoSmall }

/-- 'clockworklaw27.OccRounds', WHERE WHAT IT READS IS OF BULK AT MOST 1048576: true; the input reads as it did. -/
def occRoundsUptoRow : OpenClaim := { program := "ytdbpbpmikpdjcaagreatdoor", sum := "1c087d91f5b0db10c6cbaa55fc4243a4b848c52838691c6898e0274272f3546c", func := "clockwork/clockworklaw27.OccRounds", spec := "occRounds", inPlace := ["slices.overlaps[string]", "internal/bytealg.abigen_runtime_cmpstring"], unfollowed := true, recurses := true, named := ["internal/strconv.uint64pow10", "math/bits.deBruijn32tab", "math/bits.deBruijn64tab"], loops := true, apart := false, laid := [("math/bits.deBruijn32tab", laid_math_bits_deBruijn32tab), ("math/bits.deBruijn64tab", laid_math_bits_deBruijn64tab), ("internal/strconv.uint64pow10", laid_internal_strconv_uint64pow10)], narrowed := true }
def OccRoundsUptoSaid : Prop := occRoundsUptoRow.holds Tryz.pinned (OpenSpec.upto occRoundsSpec)

/-- 'clockworklaw21.SerialOnes', WHERE WHAT IT READS IS OF BULK AT MOST 1048576: true; the input reads as it did. -/
def serialOnesUptoRow : OpenClaim := { program := "ytdbpbpmikpdjcaagreatdoor", sum := "1c087d91f5b0db10c6cbaa55fc4243a4b848c52838691c6898e0274272f3546c", func := "clockwork/clockworklaw21.SerialOnes", spec := "serialOnes", inPlace := ["slices.overlaps[string]", "internal/bytealg.abigen_runtime_cmpstring"], unfollowed := true, recurses := true, named := ["internal/strconv.uint64pow10", "math/bits.deBruijn32tab", "math/bits.deBruijn64tab"], loops := true, apart := false, laid := [("math/bits.deBruijn32tab", laid_math_bits_deBruijn32tab), ("math/bits.deBruijn64tab", laid_math_bits_deBruijn64tab), ("internal/strconv.uint64pow10", laid_internal_strconv_uint64pow10)], narrowed := true }
def SerialOnesUptoSaid : Prop := serialOnesUptoRow.holds Tryz.pinned (OpenSpec.upto serialOnesSpec)

/-- 'clockworklaw21.SerialRetries', WHERE WHAT IT READS IS OF BULK AT MOST 1048576: true; the input reads as it did. -/
def serialRetriesUptoRow : OpenClaim := { program := "ytdbpbpmikpdjcaagreatdoor", sum := "1c087d91f5b0db10c6cbaa55fc4243a4b848c52838691c6898e0274272f3546c", func := "clockwork/clockworklaw21.SerialRetries", spec := "serialRetries", inPlace := ["slices.overlaps[string]", "internal/bytealg.abigen_runtime_cmpstring"], unfollowed := true, recurses := true, named := ["internal/strconv.uint64pow10", "math/bits.deBruijn32tab", "math/bits.deBruijn64tab"], loops := true, apart := false, laid := [("math/bits.deBruijn32tab", laid_math_bits_deBruijn32tab), ("math/bits.deBruijn64tab", laid_math_bits_deBruijn64tab), ("internal/strconv.uint64pow10", laid_internal_strconv_uint64pow10)], narrowed := true }
def SerialRetriesUptoSaid : Prop := serialRetriesUptoRow.holds Tryz.pinned (OpenSpec.upto serialRetriesSpec)

/-- 'clockworklaw21.SerialBatches', WHERE WHAT IT READS IS OF BULK AT MOST 1048576: true; the input reads as it did. -/
def serialBatchesUptoRow : OpenClaim := { program := "ytdbpbpmikpdjcaagreatdoor", sum := "1c087d91f5b0db10c6cbaa55fc4243a4b848c52838691c6898e0274272f3546c", func := "clockwork/clockworklaw21.SerialBatches", spec := "serialBatches", inPlace := ["slices.overlaps[string]", "internal/bytealg.abigen_runtime_cmpstring"], unfollowed := true, recurses := true, named := ["internal/strconv.uint64pow10", "math/bits.deBruijn32tab", "math/bits.deBruijn64tab"], loops := true, apart := false, laid := [("math/bits.deBruijn32tab", laid_math_bits_deBruijn32tab), ("math/bits.deBruijn64tab", laid_math_bits_deBruijn64tab), ("internal/strconv.uint64pow10", laid_internal_strconv_uint64pow10)], narrowed := true }
def SerialBatchesUptoSaid : Prop := serialBatchesUptoRow.holds Tryz.pinned (OpenSpec.upto serialBatchesSpec)

/-- 'clockworklaw21.SerialReconCommits', WHERE WHAT IT READS IS OF BULK AT MOST 1048576: true; the input reads as it did. -/
def serialReconCommitsUptoRow : OpenClaim := { program := "ytdbpbpmikpdjcaagreatdoor", sum := "1c087d91f5b0db10c6cbaa55fc4243a4b848c52838691c6898e0274272f3546c", func := "clockwork/clockworklaw21.SerialReconCommits", spec := "serialReconCommits", inPlace := ["slices.overlaps[string]", "internal/bytealg.abigen_runtime_cmpstring"], unfollowed := true, recurses := true, named := ["internal/strconv.uint64pow10", "math/bits.deBruijn32tab", "math/bits.deBruijn64tab"], loops := true, apart := false, laid := [("math/bits.deBruijn32tab", laid_math_bits_deBruijn32tab), ("math/bits.deBruijn64tab", laid_math_bits_deBruijn64tab), ("internal/strconv.uint64pow10", laid_internal_strconv_uint64pow10)], narrowed := true }
def SerialReconCommitsUptoSaid : Prop := serialReconCommitsUptoRow.holds Tryz.pinned (OpenSpec.upto serialReconCommitsSpec)

/-- 'clockworklaw21.SerialStays', WHERE WHAT IT READS IS OF BULK AT MOST 1048576: true; the input reads as it did. -/
def serialStaysUptoRow : OpenClaim := { program := "ytdbpbpmikpdjcaagreatdoor", sum := "1c087d91f5b0db10c6cbaa55fc4243a4b848c52838691c6898e0274272f3546c", func := "clockwork/clockworklaw21.SerialStays", spec := "serialStays", inPlace := ["slices.overlaps[string]", "internal/bytealg.abigen_runtime_cmpstring"], unfollowed := true, recurses := true, named := ["internal/strconv.uint64pow10", "math/bits.deBruijn32tab", "math/bits.deBruijn64tab"], loops := true, apart := false, laid := [("math/bits.deBruijn32tab", laid_math_bits_deBruijn32tab), ("math/bits.deBruijn64tab", laid_math_bits_deBruijn64tab), ("internal/strconv.uint64pow10", laid_internal_strconv_uint64pow10)], narrowed := true }
def SerialStaysUptoSaid : Prop := serialStaysUptoRow.holds Tryz.pinned (OpenSpec.upto serialStaysSpec)

/-- 'clockworklaw21.SerialEnds', WHERE WHAT IT READS IS OF BULK AT MOST 1048576: true; the input reads as it did. -/
def serialEndsUptoRow : OpenClaim := { program := "ytdbpbpmikpdjcaagreatdoor", sum := "1c087d91f5b0db10c6cbaa55fc4243a4b848c52838691c6898e0274272f3546c", func := "clockwork/clockworklaw21.SerialEnds", spec := "serialEnds", inPlace := ["slices.overlaps[string]", "internal/bytealg.abigen_runtime_cmpstring"], unfollowed := true, recurses := true, named := ["internal/strconv.uint64pow10", "math/bits.deBruijn32tab", "math/bits.deBruijn64tab"], loops := true, apart := false, laid := [("math/bits.deBruijn32tab", laid_math_bits_deBruijn32tab), ("math/bits.deBruijn64tab", laid_math_bits_deBruijn64tab), ("internal/strconv.uint64pow10", laid_internal_strconv_uint64pow10)], narrowed := true }
def SerialEndsUptoSaid : Prop := serialEndsUptoRow.holds Tryz.pinned (OpenSpec.upto serialEndsSpec)

/-- 'clockworklaw21.SerialRounds', WHERE WHAT IT READS IS OF BULK AT MOST 1048576: true; the input reads as it did. -/
def serialRoundsUptoRow : OpenClaim := { program := "ytdbpbpmikpdjcaagreatdoor", sum := "1c087d91f5b0db10c6cbaa55fc4243a4b848c52838691c6898e0274272f3546c", func := "clockwork/clockworklaw21.SerialRounds", spec := "serialRounds", inPlace := ["slices.overlaps[string]", "internal/bytealg.abigen_runtime_cmpstring"], unfollowed := true, recurses := true, named := ["internal/strconv.uint64pow10", "math/bits.deBruijn32tab", "math/bits.deBruijn64tab"], loops := true, apart := false, laid := [("math/bits.deBruijn32tab", laid_math_bits_deBruijn32tab), ("math/bits.deBruijn64tab", laid_math_bits_deBruijn64tab), ("internal/strconv.uint64pow10", laid_internal_strconv_uint64pow10)], narrowed := true }
def SerialRoundsUptoSaid : Prop := serialRoundsUptoRow.holds Tryz.pinned (OpenSpec.upto serialRoundsSpec)

/-- 'clockworklaw21.SerialSplits', WHERE WHAT IT READS IS OF BULK AT MOST 1048576: true; the input reads as it did. -/
def serialSplitsUptoRow : OpenClaim := { program := "ytdbpbpmikpdjcaagreatdoor", sum := "1c087d91f5b0db10c6cbaa55fc4243a4b848c52838691c6898e0274272f3546c", func := "clockwork/clockworklaw21.SerialSplits", spec := "serialSplits", inPlace := ["slices.overlaps[string]", "internal/bytealg.abigen_runtime_cmpstring"], unfollowed := true, recurses := true, named := ["internal/strconv.uint64pow10", "math/bits.deBruijn32tab", "math/bits.deBruijn64tab"], loops := true, apart := false, laid := [("math/bits.deBruijn32tab", laid_math_bits_deBruijn32tab), ("math/bits.deBruijn64tab", laid_math_bits_deBruijn64tab), ("internal/strconv.uint64pow10", laid_internal_strconv_uint64pow10)], narrowed := true }
def SerialSplitsUptoSaid : Prop := serialSplitsUptoRow.holds Tryz.pinned (OpenSpec.upto serialSplitsSpec)

/-- 'clockworklaw21.SerialFinds', WHERE WHAT IT READS IS OF BULK AT MOST 1048576: true; the input reads as it did. -/
def serialFindsUptoRow : OpenClaim := { program := "ytdbpbpmikpdjcaagreatdoor", sum := "1c087d91f5b0db10c6cbaa55fc4243a4b848c52838691c6898e0274272f3546c", func := "clockwork/clockworklaw21.SerialFinds", spec := "serialFinds", inPlace := ["slices.overlaps[string]", "internal/bytealg.abigen_runtime_cmpstring"], unfollowed := true, recurses := true, named := ["internal/strconv.uint64pow10", "math/bits.deBruijn32tab", "math/bits.deBruijn64tab"], loops := true, apart := false, laid := [("math/bits.deBruijn32tab", laid_math_bits_deBruijn32tab), ("math/bits.deBruijn64tab", laid_math_bits_deBruijn64tab), ("internal/strconv.uint64pow10", laid_internal_strconv_uint64pow10)], narrowed := true }
def SerialFindsUptoSaid : Prop := serialFindsUptoRow.holds Tryz.pinned (OpenSpec.upto serialFindsSpec)

end Rows
end Go.Proofs.YtdbpbpmikpdjcaaGreatDoor
