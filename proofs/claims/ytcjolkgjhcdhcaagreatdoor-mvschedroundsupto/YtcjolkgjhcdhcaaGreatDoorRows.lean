/-
  NARROWER THAN 'FOR EVERY INPUT', by the rows' own cells (each row's printed sentence says how): MvschedDeps: laid · MvschedVisible: laid · MvschedRounds: loops, laid · MvschedOrders: loops, laid · MvschedEarly: laid · MvschedConflicts: laid · MvschedSerial: loops, laid.
  DERIVED. THE GIVEN ROWS OF THIS SEAT. 7 by the template 'for every input the law returns true; each argument reads behind the call as it read before'; 0 by the template 'total and deterministic' (their statements: YtcjolkgjhcdhcaaGreatDoorTotals.lean).
  GIVEN WITH THE SEED: the statements are not yours to turn. If you find one false, say at which input.
  Laid BY PROGRAM, IN A SANDBOX (cutbox-rows.mjs): the forced cells as the released guide's own fill.sh prints them over the translation 081d0e1e6a5ad30e… (all of the seat's roots in one cut). By AI agents, Wed Nov 11 2026. No macro, syntax, notation, axiom, sorry.
-/
import Derived.Test.YtcjolkgjhcdhcaaGreatDoorChecked
import GoSem.Claim
import GoSem.ClaimJoined
import GoSem.ClaimMapViews
import Derived.JoinedTies
import Derived.KernelRfl
namespace Go.Proofs.YtcjolkgjhcdhcaaGreatDoor
/- THE CELL 'sum', in the pinned program and in every row, IS THE sha256 OF THE DUMP (.gsa) THAT YtcjolkgjhcdhcaaGreatDoorProg.lean LOADS. Nothing in Lean hashes anything: it is a label: what it is worth is what the hold of that sum in a sandbox is worth. -/
noncomputable def Tryz.pinned : Pinned := { name := "ytcjolkgjhcdhcaagreatdoor", sum := "081d0e1e6a5ad30e708ce129578b02d893320b27507f8c2c05a135e11a398e9b", checked := Tryz.checked }
namespace Rows
def none {H : Type} : Left H := { results := [], args := [] }

/- WHAT THE LISTED PACKAGE-LEVEL VARIABLES READ AS WHEN THE CALL BEGINS. Each datum BY PROGRAM (the guide's laid-datum.mjs) off the statement by which the dump's own 'gosem.cut.vars' lays the variable. In a bare row this is a premise. The card (YtcjolkgjhcdhcaaGreatDoorCards.lean) ties it to the program's text. -/
def laid_math_bits_deBruijn32tab {H : Type} : DataW H := .agg [.lit (.int .u8 0), .lit (.int .u8 1), .lit (.int .u8 28), .lit (.int .u8 2), .lit (.int .u8 29), .lit (.int .u8 14), .lit (.int .u8 24), .lit (.int .u8 3), .lit (.int .u8 30), .lit (.int .u8 22), .lit (.int .u8 20), .lit (.int .u8 15), .lit (.int .u8 25), .lit (.int .u8 17), .lit (.int .u8 4), .lit (.int .u8 8), .lit (.int .u8 31), .lit (.int .u8 27), .lit (.int .u8 13), .lit (.int .u8 23), .lit (.int .u8 21), .lit (.int .u8 19), .lit (.int .u8 16), .lit (.int .u8 7), .lit (.int .u8 26), .lit (.int .u8 12), .lit (.int .u8 18), .lit (.int .u8 6), .lit (.int .u8 11), .lit (.int .u8 5), .lit (.int .u8 10), .lit (.int .u8 9)]
def laid_math_bits_deBruijn64tab {H : Type} : DataW H := .agg [.lit (.int .u8 0), .lit (.int .u8 1), .lit (.int .u8 56), .lit (.int .u8 2), .lit (.int .u8 57), .lit (.int .u8 49), .lit (.int .u8 28), .lit (.int .u8 3), .lit (.int .u8 61), .lit (.int .u8 58), .lit (.int .u8 42), .lit (.int .u8 50), .lit (.int .u8 38), .lit (.int .u8 29), .lit (.int .u8 17), .lit (.int .u8 4), .lit (.int .u8 62), .lit (.int .u8 47), .lit (.int .u8 59), .lit (.int .u8 36), .lit (.int .u8 45), .lit (.int .u8 43), .lit (.int .u8 51), .lit (.int .u8 22), .lit (.int .u8 53), .lit (.int .u8 39), .lit (.int .u8 33), .lit (.int .u8 30), .lit (.int .u8 24), .lit (.int .u8 18), .lit (.int .u8 12), .lit (.int .u8 5), .lit (.int .u8 63), .lit (.int .u8 55), .lit (.int .u8 48), .lit (.int .u8 27), .lit (.int .u8 60), .lit (.int .u8 41), .lit (.int .u8 37), .lit (.int .u8 16), .lit (.int .u8 46), .lit (.int .u8 35), .lit (.int .u8 44), .lit (.int .u8 21), .lit (.int .u8 52), .lit (.int .u8 32), .lit (.int .u8 23), .lit (.int .u8 11), .lit (.int .u8 54), .lit (.int .u8 26), .lit (.int .u8 40), .lit (.int .u8 15), .lit (.int .u8 34), .lit (.int .u8 20), .lit (.int .u8 31), .lit (.int .u8 10), .lit (.int .u8 25), .lit (.int .u8 14), .lit (.int .u8 19), .lit (.int .u8 9), .lit (.int .u8 13), .lit (.int .u8 8), .lit (.int .u8 7), .lit (.int .u8 6)]
def laid_internal_strconv_uint64pow10 {H : Type} : DataW H := .agg [.lit (.int .u64 1), .lit (.int .u64 10), .lit (.int .u64 100), .lit (.int .u64 1000), .lit (.int .u64 10000), .lit (.int .u64 100000), .lit (.int .u64 1000000), .lit (.int .u64 10000000), .lit (.int .u64 100000000), .lit (.int .u64 1000000000), .lit (.int .u64 10000000000), .lit (.int .u64 100000000000), .lit (.int .u64 1000000000000), .lit (.int .u64 10000000000000), .lit (.int .u64 100000000000000), .lit (.int .u64 1000000000000000), .lit (.int .u64 10000000000000000), .lit (.int .u64 100000000000000000), .lit (.int .u64 1000000000000000000), .lit (.int .u64 10000000000000000000)]

/-- 'clockworklaw26.MvschedDeps': WHATEVER THE INPUT: true; the input reads as it did. -/
def mvschedDepsSpec : ChangeSpec := { name := "mvschedDeps", fn := fun _ => fun
  | [d] => { results := [.lit (.bool true)], args := [d] }
  | _ => none }
def mvschedDepsRow : OpenClaim := { program := "ytcjolkgjhcdhcaagreatdoor", sum := "081d0e1e6a5ad30e708ce129578b02d893320b27507f8c2c05a135e11a398e9b", func := "clockwork/clockworklaw26.MvschedDeps", spec := "mvschedDeps", inPlace := ["internal/bytealg.abigen_runtime_cmpstring", "slices.overlaps[string]"], unfollowed := true, recurses := true, named := ["internal/strconv.uint64pow10", "math/bits.deBruijn32tab", "math/bits.deBruijn64tab"], apart := false, laid := [("math/bits.deBruijn32tab", laid_math_bits_deBruijn32tab), ("math/bits.deBruijn64tab", laid_math_bits_deBruijn64tab), ("internal/strconv.uint64pow10", laid_internal_strconv_uint64pow10)] }
def MvschedDepsSaid : Prop := mvschedDepsRow.holds Tryz.pinned (OpenSpec.ofChange mvschedDepsSpec)

/-- ITS FALSE NEIGHBOUR: 'it returns false'. Refute it at one input. -/
def mvschedDepsWrong : ChangeSpec := { name := "mvschedDeps", fn := fun _ => fun
  | [d] => { results := [.lit (.bool false)], args := [d] }
  | _ => none }
def MvschedDepsWrongFalsely : Prop := mvschedDepsRow.holds Tryz.pinned (OpenSpec.ofChange mvschedDepsWrong)

/-- 'clockworklaw26.MvschedVisible': WHATEVER THE INPUT: true; the input reads as it did. -/
def mvschedVisibleSpec : ChangeSpec := { name := "mvschedVisible", fn := fun _ => fun
  | [d] => { results := [.lit (.bool true)], args := [d] }
  | _ => none }
def mvschedVisibleRow : OpenClaim := { program := "ytcjolkgjhcdhcaagreatdoor", sum := "081d0e1e6a5ad30e708ce129578b02d893320b27507f8c2c05a135e11a398e9b", func := "clockwork/clockworklaw26.MvschedVisible", spec := "mvschedVisible", inPlace := ["internal/bytealg.abigen_runtime_cmpstring", "slices.overlaps[string]"], unfollowed := true, recurses := true, named := ["internal/strconv.uint64pow10", "math/bits.deBruijn32tab", "math/bits.deBruijn64tab"], apart := false, laid := [("math/bits.deBruijn32tab", laid_math_bits_deBruijn32tab), ("math/bits.deBruijn64tab", laid_math_bits_deBruijn64tab), ("internal/strconv.uint64pow10", laid_internal_strconv_uint64pow10)] }
def MvschedVisibleSaid : Prop := mvschedVisibleRow.holds Tryz.pinned (OpenSpec.ofChange mvschedVisibleSpec)

/-- ITS FALSE NEIGHBOUR: 'it returns false'. Refute it at one input. -/
def mvschedVisibleWrong : ChangeSpec := { name := "mvschedVisible", fn := fun _ => fun
  | [d] => { results := [.lit (.bool false)], args := [d] }
  | _ => none }
def MvschedVisibleWrongFalsely : Prop := mvschedVisibleRow.holds Tryz.pinned (OpenSpec.ofChange mvschedVisibleWrong)

/-- 'clockworklaw26.MvschedRounds': WHATEVER THE INPUT: true; the input reads as it did. -/
def mvschedRoundsSpec : ChangeSpec := { name := "mvschedRounds", fn := fun _ => fun
  | [d1, d2] => { results := [.lit (.bool true)], args := [d1, d2] }
  | _ => none }
def mvschedRoundsRow : OpenClaim := { program := "ytcjolkgjhcdhcaagreatdoor", sum := "081d0e1e6a5ad30e708ce129578b02d893320b27507f8c2c05a135e11a398e9b", func := "clockwork/clockworklaw26.MvschedRounds", spec := "mvschedRounds", inPlace := ["internal/bytealg.abigen_runtime_cmpstring", "slices.overlaps[string]"], unfollowed := true, recurses := true, named := ["internal/strconv.uint64pow10", "math/bits.deBruijn32tab", "math/bits.deBruijn64tab"], loops := true, apart := false, laid := [("math/bits.deBruijn32tab", laid_math_bits_deBruijn32tab), ("math/bits.deBruijn64tab", laid_math_bits_deBruijn64tab), ("internal/strconv.uint64pow10", laid_internal_strconv_uint64pow10)] }
def MvschedRoundsSaid : Prop := mvschedRoundsRow.holds Tryz.pinned (OpenSpec.ofChange mvschedRoundsSpec)

/-- ITS FALSE NEIGHBOUR: 'it returns false'. Refute it at one input. -/
def mvschedRoundsWrong : ChangeSpec := { name := "mvschedRounds", fn := fun _ => fun
  | [d1, d2] => { results := [.lit (.bool false)], args := [d1, d2] }
  | _ => none }
def MvschedRoundsWrongFalsely : Prop := mvschedRoundsRow.holds Tryz.pinned (OpenSpec.ofChange mvschedRoundsWrong)

/-- 'clockworklaw26.MvschedOrders': WHATEVER THE INPUT: true; the input reads as it did. -/
def mvschedOrdersSpec : ChangeSpec := { name := "mvschedOrders", fn := fun _ => fun
  | [d1, d2] => { results := [.lit (.bool true)], args := [d1, d2] }
  | _ => none }
def mvschedOrdersRow : OpenClaim := { program := "ytcjolkgjhcdhcaagreatdoor", sum := "081d0e1e6a5ad30e708ce129578b02d893320b27507f8c2c05a135e11a398e9b", func := "clockwork/clockworklaw26.MvschedOrders", spec := "mvschedOrders", inPlace := ["internal/bytealg.abigen_runtime_cmpstring", "slices.overlaps[string]"], unfollowed := true, recurses := true, named := ["internal/strconv.uint64pow10", "math/bits.deBruijn32tab", "math/bits.deBruijn64tab"], loops := true, apart := false, laid := [("math/bits.deBruijn32tab", laid_math_bits_deBruijn32tab), ("math/bits.deBruijn64tab", laid_math_bits_deBruijn64tab), ("internal/strconv.uint64pow10", laid_internal_strconv_uint64pow10)] }
def MvschedOrdersSaid : Prop := mvschedOrdersRow.holds Tryz.pinned (OpenSpec.ofChange mvschedOrdersSpec)

/-- ITS FALSE NEIGHBOUR: 'it returns false'. Refute it at one input. -/
def mvschedOrdersWrong : ChangeSpec := { name := "mvschedOrders", fn := fun _ => fun
  | [d1, d2] => { results := [.lit (.bool false)], args := [d1, d2] }
  | _ => none }
def MvschedOrdersWrongFalsely : Prop := mvschedOrdersRow.holds Tryz.pinned (OpenSpec.ofChange mvschedOrdersWrong)

/-- 'clockworklaw26.MvschedEarly': WHATEVER THE INPUT: true; the input reads as it did. -/
def mvschedEarlySpec : ChangeSpec := { name := "mvschedEarly", fn := fun _ => fun
  | [d1, d2] => { results := [.lit (.bool true)], args := [d1, d2] }
  | _ => none }
def mvschedEarlyRow : OpenClaim := { program := "ytcjolkgjhcdhcaagreatdoor", sum := "081d0e1e6a5ad30e708ce129578b02d893320b27507f8c2c05a135e11a398e9b", func := "clockwork/clockworklaw26.MvschedEarly", spec := "mvschedEarly", inPlace := ["internal/bytealg.abigen_runtime_cmpstring", "slices.overlaps[string]"], unfollowed := true, recurses := true, named := ["internal/strconv.uint64pow10", "math/bits.deBruijn32tab", "math/bits.deBruijn64tab"], apart := false, laid := [("math/bits.deBruijn32tab", laid_math_bits_deBruijn32tab), ("math/bits.deBruijn64tab", laid_math_bits_deBruijn64tab), ("internal/strconv.uint64pow10", laid_internal_strconv_uint64pow10)] }
def MvschedEarlySaid : Prop := mvschedEarlyRow.holds Tryz.pinned (OpenSpec.ofChange mvschedEarlySpec)

/-- ITS FALSE NEIGHBOUR: 'it returns false'. Refute it at one input. -/
def mvschedEarlyWrong : ChangeSpec := { name := "mvschedEarly", fn := fun _ => fun
  | [d1, d2] => { results := [.lit (.bool false)], args := [d1, d2] }
  | _ => none }
def MvschedEarlyWrongFalsely : Prop := mvschedEarlyRow.holds Tryz.pinned (OpenSpec.ofChange mvschedEarlyWrong)

/-- 'clockworklaw26.MvschedConflicts': WHATEVER THE INPUT: true; the input reads as it did. -/
def mvschedConflictsSpec : ChangeSpec := { name := "mvschedConflicts", fn := fun _ => fun
  | [d1, d2] => { results := [.lit (.bool true)], args := [d1, d2] }
  | _ => none }
def mvschedConflictsRow : OpenClaim := { program := "ytcjolkgjhcdhcaagreatdoor", sum := "081d0e1e6a5ad30e708ce129578b02d893320b27507f8c2c05a135e11a398e9b", func := "clockwork/clockworklaw26.MvschedConflicts", spec := "mvschedConflicts", inPlace := ["internal/bytealg.abigen_runtime_cmpstring", "slices.overlaps[string]"], unfollowed := true, recurses := true, named := ["internal/strconv.uint64pow10", "math/bits.deBruijn32tab", "math/bits.deBruijn64tab"], apart := false, laid := [("math/bits.deBruijn32tab", laid_math_bits_deBruijn32tab), ("math/bits.deBruijn64tab", laid_math_bits_deBruijn64tab), ("internal/strconv.uint64pow10", laid_internal_strconv_uint64pow10)] }
def MvschedConflictsSaid : Prop := mvschedConflictsRow.holds Tryz.pinned (OpenSpec.ofChange mvschedConflictsSpec)

/-- ITS FALSE NEIGHBOUR: 'it returns false'. Refute it at one input. -/
def mvschedConflictsWrong : ChangeSpec := { name := "mvschedConflicts", fn := fun _ => fun
  | [d1, d2] => { results := [.lit (.bool false)], args := [d1, d2] }
  | _ => none }
def MvschedConflictsWrongFalsely : Prop := mvschedConflictsRow.holds Tryz.pinned (OpenSpec.ofChange mvschedConflictsWrong)

/-- 'clockworklaw26.MvschedSerial': WHATEVER THE INPUT: true; the input reads as it did. -/
def mvschedSerialSpec : ChangeSpec := { name := "mvschedSerial", fn := fun _ => fun
  | [d1, d2] => { results := [.lit (.bool true)], args := [d1, d2] }
  | _ => none }
def mvschedSerialRow : OpenClaim := { program := "ytcjolkgjhcdhcaagreatdoor", sum := "081d0e1e6a5ad30e708ce129578b02d893320b27507f8c2c05a135e11a398e9b", func := "clockwork/clockworklaw26.MvschedSerial", spec := "mvschedSerial", inPlace := ["internal/bytealg.abigen_runtime_cmpstring", "slices.overlaps[string]"], unfollowed := true, recurses := true, named := ["internal/strconv.uint64pow10", "math/bits.deBruijn32tab", "math/bits.deBruijn64tab"], loops := true, apart := false, laid := [("math/bits.deBruijn32tab", laid_math_bits_deBruijn32tab), ("math/bits.deBruijn64tab", laid_math_bits_deBruijn64tab), ("internal/strconv.uint64pow10", laid_internal_strconv_uint64pow10)] }
def MvschedSerialSaid : Prop := mvschedSerialRow.holds Tryz.pinned (OpenSpec.ofChange mvschedSerialSpec)

/-- ITS FALSE NEIGHBOUR: 'it returns false'. Refute it at one input. -/
def mvschedSerialWrong : ChangeSpec := { name := "mvschedSerial", fn := fun _ => fun
  | [d1, d2] => { results := [.lit (.bool false)], args := [d1, d2] }
  | _ => none }
def MvschedSerialWrongFalsely : Prop := mvschedSerialRow.holds Tryz.pinned (OpenSpec.ofChange mvschedSerialWrong)

/- THE SECOND FORM. 'bulk': how many values and letters a reading holds, each counted each time it is reached (what is shared counts as often as it is met; a slice's spare places count too). A statement '..UptoSaid' is the law's where the arguments, and the package variables that the reading takes, are together of bulk at most 1048576: NARROWER than '..Said'. Prove '..Said' where nothing that the law and all that it calls make is longer than what came in: it says more and counts as full. Else prove '..UptoSaid'. A law counts once. -/
mutual
def uptoBulk {H : Type} : DataW H → Nat
  | .lit (.string bytes) => bytes.length + 1
  | .lit _ => 1
  | .nil => 1
  | .ptr d => uptoBulk d + 1
  | .slice elems spare => uptoBulkAll elems + uptoBulkAll spare + 1
  | .agg parts => uptoBulkAll parts + 1
  | .iface _ d => uptoBulk d + 1
  | .map entries => uptoBulkEntries entries + 1
  | .held _ => 1
def uptoBulkAll {H : Type} : List (DataW H) → Nat
  | [] => 0
  | d :: r => uptoBulk d + uptoBulkAll r
def uptoBulkEntries {H : Type} : List (Lit × DataW H) → Nat
  | [] => 0
  | x :: r => uptoBulkEntry x + uptoBulkEntries r
def uptoBulkEntry {H : Type} : Lit × DataW H → Nat
  | (.string bytes, d) => bytes.length + uptoBulk d + 1
  | (_, d) => uptoBulk d + 1
 end
def uptoSmall : (H : Type) → List (DataW H) → Bool := fun _ ds => decide (uptoBulkAll ds ≤ 1048576)
def OpenSpec.upto (s : _root_.Go.ChangeSpec) : _root_.Go.OpenSpec := { _root_.Go.OpenSpec.ofChange s with cond := some uptoSmall }

/-- 'clockworklaw26.MvschedDeps', WHERE WHAT IT READS IS OF BULK AT MOST 1048576: true; the input reads as it did. -/
def mvschedDepsUptoRow : OpenClaim := { program := "ytcjolkgjhcdhcaagreatdoor", sum := "081d0e1e6a5ad30e708ce129578b02d893320b27507f8c2c05a135e11a398e9b", func := "clockwork/clockworklaw26.MvschedDeps", spec := "mvschedDeps", inPlace := ["internal/bytealg.abigen_runtime_cmpstring", "slices.overlaps[string]"], unfollowed := true, recurses := true, named := ["internal/strconv.uint64pow10", "math/bits.deBruijn32tab", "math/bits.deBruijn64tab"], apart := false, laid := [("math/bits.deBruijn32tab", laid_math_bits_deBruijn32tab), ("math/bits.deBruijn64tab", laid_math_bits_deBruijn64tab), ("internal/strconv.uint64pow10", laid_internal_strconv_uint64pow10)], narrowed := true }
def MvschedDepsUptoSaid : Prop := mvschedDepsUptoRow.holds Tryz.pinned (OpenSpec.upto mvschedDepsSpec)

/-- 'clockworklaw26.MvschedVisible', WHERE WHAT IT READS IS OF BULK AT MOST 1048576: true; the input reads as it did. -/
def mvschedVisibleUptoRow : OpenClaim := { program := "ytcjolkgjhcdhcaagreatdoor", sum := "081d0e1e6a5ad30e708ce129578b02d893320b27507f8c2c05a135e11a398e9b", func := "clockwork/clockworklaw26.MvschedVisible", spec := "mvschedVisible", inPlace := ["internal/bytealg.abigen_runtime_cmpstring", "slices.overlaps[string]"], unfollowed := true, recurses := true, named := ["internal/strconv.uint64pow10", "math/bits.deBruijn32tab", "math/bits.deBruijn64tab"], apart := false, laid := [("math/bits.deBruijn32tab", laid_math_bits_deBruijn32tab), ("math/bits.deBruijn64tab", laid_math_bits_deBruijn64tab), ("internal/strconv.uint64pow10", laid_internal_strconv_uint64pow10)], narrowed := true }
def MvschedVisibleUptoSaid : Prop := mvschedVisibleUptoRow.holds Tryz.pinned (OpenSpec.upto mvschedVisibleSpec)

/-- 'clockworklaw26.MvschedRounds', WHERE WHAT IT READS IS OF BULK AT MOST 1048576: true; the input reads as it did. -/
def mvschedRoundsUptoRow : OpenClaim := { program := "ytcjolkgjhcdhcaagreatdoor", sum := "081d0e1e6a5ad30e708ce129578b02d893320b27507f8c2c05a135e11a398e9b", func := "clockwork/clockworklaw26.MvschedRounds", spec := "mvschedRounds", inPlace := ["internal/bytealg.abigen_runtime_cmpstring", "slices.overlaps[string]"], unfollowed := true, recurses := true, named := ["internal/strconv.uint64pow10", "math/bits.deBruijn32tab", "math/bits.deBruijn64tab"], loops := true, apart := false, laid := [("math/bits.deBruijn32tab", laid_math_bits_deBruijn32tab), ("math/bits.deBruijn64tab", laid_math_bits_deBruijn64tab), ("internal/strconv.uint64pow10", laid_internal_strconv_uint64pow10)], narrowed := true }
def MvschedRoundsUptoSaid : Prop := mvschedRoundsUptoRow.holds Tryz.pinned (OpenSpec.upto mvschedRoundsSpec)

/-- 'clockworklaw26.MvschedOrders', WHERE WHAT IT READS IS OF BULK AT MOST 1048576: true; the input reads as it did. -/
def mvschedOrdersUptoRow : OpenClaim := { program := "ytcjolkgjhcdhcaagreatdoor", sum := "081d0e1e6a5ad30e708ce129578b02d893320b27507f8c2c05a135e11a398e9b", func := "clockwork/clockworklaw26.MvschedOrders", spec := "mvschedOrders", inPlace := ["internal/bytealg.abigen_runtime_cmpstring", "slices.overlaps[string]"], unfollowed := true, recurses := true, named := ["internal/strconv.uint64pow10", "math/bits.deBruijn32tab", "math/bits.deBruijn64tab"], loops := true, apart := false, laid := [("math/bits.deBruijn32tab", laid_math_bits_deBruijn32tab), ("math/bits.deBruijn64tab", laid_math_bits_deBruijn64tab), ("internal/strconv.uint64pow10", laid_internal_strconv_uint64pow10)], narrowed := true }
def MvschedOrdersUptoSaid : Prop := mvschedOrdersUptoRow.holds Tryz.pinned (OpenSpec.upto mvschedOrdersSpec)

/-- 'clockworklaw26.MvschedEarly', WHERE WHAT IT READS IS OF BULK AT MOST 1048576: true; the input reads as it did. -/
def mvschedEarlyUptoRow : OpenClaim := { program := "ytcjolkgjhcdhcaagreatdoor", sum := "081d0e1e6a5ad30e708ce129578b02d893320b27507f8c2c05a135e11a398e9b", func := "clockwork/clockworklaw26.MvschedEarly", spec := "mvschedEarly", inPlace := ["internal/bytealg.abigen_runtime_cmpstring", "slices.overlaps[string]"], unfollowed := true, recurses := true, named := ["internal/strconv.uint64pow10", "math/bits.deBruijn32tab", "math/bits.deBruijn64tab"], apart := false, laid := [("math/bits.deBruijn32tab", laid_math_bits_deBruijn32tab), ("math/bits.deBruijn64tab", laid_math_bits_deBruijn64tab), ("internal/strconv.uint64pow10", laid_internal_strconv_uint64pow10)], narrowed := true }
def MvschedEarlyUptoSaid : Prop := mvschedEarlyUptoRow.holds Tryz.pinned (OpenSpec.upto mvschedEarlySpec)

/-- 'clockworklaw26.MvschedConflicts', WHERE WHAT IT READS IS OF BULK AT MOST 1048576: true; the input reads as it did. -/
def mvschedConflictsUptoRow : OpenClaim := { program := "ytcjolkgjhcdhcaagreatdoor", sum := "081d0e1e6a5ad30e708ce129578b02d893320b27507f8c2c05a135e11a398e9b", func := "clockwork/clockworklaw26.MvschedConflicts", spec := "mvschedConflicts", inPlace := ["internal/bytealg.abigen_runtime_cmpstring", "slices.overlaps[string]"], unfollowed := true, recurses := true, named := ["internal/strconv.uint64pow10", "math/bits.deBruijn32tab", "math/bits.deBruijn64tab"], apart := false, laid := [("math/bits.deBruijn32tab", laid_math_bits_deBruijn32tab), ("math/bits.deBruijn64tab", laid_math_bits_deBruijn64tab), ("internal/strconv.uint64pow10", laid_internal_strconv_uint64pow10)], narrowed := true }
def MvschedConflictsUptoSaid : Prop := mvschedConflictsUptoRow.holds Tryz.pinned (OpenSpec.upto mvschedConflictsSpec)

/-- 'clockworklaw26.MvschedSerial', WHERE WHAT IT READS IS OF BULK AT MOST 1048576: true; the input reads as it did. -/
def mvschedSerialUptoRow : OpenClaim := { program := "ytcjolkgjhcdhcaagreatdoor", sum := "081d0e1e6a5ad30e708ce129578b02d893320b27507f8c2c05a135e11a398e9b", func := "clockwork/clockworklaw26.MvschedSerial", spec := "mvschedSerial", inPlace := ["internal/bytealg.abigen_runtime_cmpstring", "slices.overlaps[string]"], unfollowed := true, recurses := true, named := ["internal/strconv.uint64pow10", "math/bits.deBruijn32tab", "math/bits.deBruijn64tab"], loops := true, apart := false, laid := [("math/bits.deBruijn32tab", laid_math_bits_deBruijn32tab), ("math/bits.deBruijn64tab", laid_math_bits_deBruijn64tab), ("internal/strconv.uint64pow10", laid_internal_strconv_uint64pow10)], narrowed := true }
def MvschedSerialUptoSaid : Prop := mvschedSerialUptoRow.holds Tryz.pinned (OpenSpec.upto mvschedSerialSpec)

end Rows
end Go.Proofs.YtcjolkgjhcdhcaaGreatDoor
