/-
  NARROWER THAN 'FOR EVERY INPUT', by the rows' own cells (each row's printed sentence says how): DistValidates: laid · DistLoads: laid · DistSerial: loops, laid · DistChoices: loops, laid · DistGathers: laid · DistConserves: loops, laid · DistMoves: loops, laid.
  DERIVED. THE GIVEN ROWS OF THIS SEAT. 7 by the template 'for every input the law returns true; each argument reads behind the call as it read before'; 0 by the template 'total and deterministic' (their statements: YtolejdhnnchfpaaGreatDoorTotals.lean).
  GIVEN WITH THE SEED: the statements are not yours to turn. If you find one false, say at which input.
  Laid BY PROGRAM, IN A SANDBOX (cutbox-rows.mjs): the forced cells as the released guide's own fill.sh prints them over the translation d25d1a4968c38c0a… (all of the seat's roots in one cut). By AI agents, Wed Nov 11 2026. No macro, syntax, notation, axiom, sorry.
-/
import Derived.Test.YtolejdhnnchfpaaGreatDoorChecked
import GoSem.Claim
import GoSem.ClaimJoined
import GoSem.ClaimMapViews
import Derived.JoinedTies
import Derived.KernelRfl
namespace Go.Proofs.YtolejdhnnchfpaaGreatDoor
/- THE CELL 'sum', in the pinned program and in every row, IS THE sha256 OF THE DUMP (.gsa) THAT YtolejdhnnchfpaaGreatDoorProg.lean LOADS. Nothing in Lean hashes anything: it is a label: what it is worth is what the hold of that sum in a sandbox is worth. -/
noncomputable def Tryz.pinned : Pinned := { name := "ytolejdhnnchfpaagreatdoor", sum := "d25d1a4968c38c0a2686fe332005658b3f044ff7afcad837d941944ea2c72390", checked := Tryz.checked }
namespace Rows
def none {H : Type} : Left H := { results := [], args := [] }

/- WHAT THE LISTED PACKAGE-LEVEL VARIABLES READ AS WHEN THE CALL BEGINS. Each datum BY PROGRAM (the guide's laid-datum.mjs) off the statement by which the dump's own 'gosem.cut.vars' lays the variable. In a bare row this is a premise. The card (YtolejdhnnchfpaaGreatDoorCards.lean) ties it to the program's text. -/
def laid_math_bits_deBruijn32tab {H : Type} : DataW H := .agg [.lit (.int .u8 0), .lit (.int .u8 1), .lit (.int .u8 28), .lit (.int .u8 2), .lit (.int .u8 29), .lit (.int .u8 14), .lit (.int .u8 24), .lit (.int .u8 3), .lit (.int .u8 30), .lit (.int .u8 22), .lit (.int .u8 20), .lit (.int .u8 15), .lit (.int .u8 25), .lit (.int .u8 17), .lit (.int .u8 4), .lit (.int .u8 8), .lit (.int .u8 31), .lit (.int .u8 27), .lit (.int .u8 13), .lit (.int .u8 23), .lit (.int .u8 21), .lit (.int .u8 19), .lit (.int .u8 16), .lit (.int .u8 7), .lit (.int .u8 26), .lit (.int .u8 12), .lit (.int .u8 18), .lit (.int .u8 6), .lit (.int .u8 11), .lit (.int .u8 5), .lit (.int .u8 10), .lit (.int .u8 9)]
def laid_math_bits_deBruijn64tab {H : Type} : DataW H := .agg [.lit (.int .u8 0), .lit (.int .u8 1), .lit (.int .u8 56), .lit (.int .u8 2), .lit (.int .u8 57), .lit (.int .u8 49), .lit (.int .u8 28), .lit (.int .u8 3), .lit (.int .u8 61), .lit (.int .u8 58), .lit (.int .u8 42), .lit (.int .u8 50), .lit (.int .u8 38), .lit (.int .u8 29), .lit (.int .u8 17), .lit (.int .u8 4), .lit (.int .u8 62), .lit (.int .u8 47), .lit (.int .u8 59), .lit (.int .u8 36), .lit (.int .u8 45), .lit (.int .u8 43), .lit (.int .u8 51), .lit (.int .u8 22), .lit (.int .u8 53), .lit (.int .u8 39), .lit (.int .u8 33), .lit (.int .u8 30), .lit (.int .u8 24), .lit (.int .u8 18), .lit (.int .u8 12), .lit (.int .u8 5), .lit (.int .u8 63), .lit (.int .u8 55), .lit (.int .u8 48), .lit (.int .u8 27), .lit (.int .u8 60), .lit (.int .u8 41), .lit (.int .u8 37), .lit (.int .u8 16), .lit (.int .u8 46), .lit (.int .u8 35), .lit (.int .u8 44), .lit (.int .u8 21), .lit (.int .u8 52), .lit (.int .u8 32), .lit (.int .u8 23), .lit (.int .u8 11), .lit (.int .u8 54), .lit (.int .u8 26), .lit (.int .u8 40), .lit (.int .u8 15), .lit (.int .u8 34), .lit (.int .u8 20), .lit (.int .u8 31), .lit (.int .u8 10), .lit (.int .u8 25), .lit (.int .u8 14), .lit (.int .u8 19), .lit (.int .u8 9), .lit (.int .u8 13), .lit (.int .u8 8), .lit (.int .u8 7), .lit (.int .u8 6)]
def laid_internal_strconv_uint64pow10 {H : Type} : DataW H := .agg [.lit (.int .u64 1), .lit (.int .u64 10), .lit (.int .u64 100), .lit (.int .u64 1000), .lit (.int .u64 10000), .lit (.int .u64 100000), .lit (.int .u64 1000000), .lit (.int .u64 10000000), .lit (.int .u64 100000000), .lit (.int .u64 1000000000), .lit (.int .u64 10000000000), .lit (.int .u64 100000000000), .lit (.int .u64 1000000000000), .lit (.int .u64 10000000000000), .lit (.int .u64 100000000000000), .lit (.int .u64 1000000000000000), .lit (.int .u64 10000000000000000), .lit (.int .u64 100000000000000000), .lit (.int .u64 1000000000000000000), .lit (.int .u64 10000000000000000000)]

/-- 'clockworklaw32.DistValidates': WHATEVER THE INPUT: true; the input reads as it did. -/
def distValidatesSpec : ChangeSpec := { name := "distValidates", fn := fun _ => fun
  | [d1, d2] => { results := [.lit (.bool true)], args := [d1, d2] }
  | _ => none }
def distValidatesRow : OpenClaim := { program := "ytolejdhnnchfpaagreatdoor", sum := "d25d1a4968c38c0a2686fe332005658b3f044ff7afcad837d941944ea2c72390", func := "clockwork/clockworklaw32.DistValidates", spec := "distValidates", inPlace := ["slices.overlaps[clockwork/api.LockQueue]", "internal/bytealg.abigen_runtime_cmpstring", "slices.overlaps[string]"], unfollowed := true, recurses := true, named := ["internal/strconv.uint64pow10", "math/bits.deBruijn32tab", "math/bits.deBruijn64tab"], apart := false, laid := [("math/bits.deBruijn32tab", laid_math_bits_deBruijn32tab), ("math/bits.deBruijn64tab", laid_math_bits_deBruijn64tab), ("internal/strconv.uint64pow10", laid_internal_strconv_uint64pow10)] }
def DistValidatesSaid : Prop := distValidatesRow.holds Tryz.pinned (OpenSpec.ofChange distValidatesSpec)

/-- ITS FALSE NEIGHBOUR: 'it returns false'. Refute it at one input. -/
def distValidatesWrong : ChangeSpec := { name := "distValidates", fn := fun _ => fun
  | [d1, d2] => { results := [.lit (.bool false)], args := [d1, d2] }
  | _ => none }
def DistValidatesWrongFalsely : Prop := distValidatesRow.holds Tryz.pinned (OpenSpec.ofChange distValidatesWrong)

/-- 'clockworklaw32.DistLoads': WHATEVER THE INPUT: true; the input reads as it did. -/
def distLoadsSpec : ChangeSpec := { name := "distLoads", fn := fun _ => fun
  | [d1, d2] => { results := [.lit (.bool true)], args := [d1, d2] }
  | _ => none }
def distLoadsRow : OpenClaim := { program := "ytolejdhnnchfpaagreatdoor", sum := "d25d1a4968c38c0a2686fe332005658b3f044ff7afcad837d941944ea2c72390", func := "clockwork/clockworklaw32.DistLoads", spec := "distLoads", inPlace := ["slices.overlaps[clockwork/api.LockQueue]", "internal/bytealg.abigen_runtime_cmpstring", "slices.overlaps[string]"], unfollowed := true, recurses := true, named := ["internal/strconv.uint64pow10", "math/bits.deBruijn32tab", "math/bits.deBruijn64tab"], apart := false, laid := [("math/bits.deBruijn32tab", laid_math_bits_deBruijn32tab), ("math/bits.deBruijn64tab", laid_math_bits_deBruijn64tab), ("internal/strconv.uint64pow10", laid_internal_strconv_uint64pow10)] }
def DistLoadsSaid : Prop := distLoadsRow.holds Tryz.pinned (OpenSpec.ofChange distLoadsSpec)

/-- ITS FALSE NEIGHBOUR: 'it returns false'. Refute it at one input. -/
def distLoadsWrong : ChangeSpec := { name := "distLoads", fn := fun _ => fun
  | [d1, d2] => { results := [.lit (.bool false)], args := [d1, d2] }
  | _ => none }
def DistLoadsWrongFalsely : Prop := distLoadsRow.holds Tryz.pinned (OpenSpec.ofChange distLoadsWrong)

/-- 'clockworklaw32.DistSerial': WHATEVER THE INPUT: true; the input reads as it did. -/
def distSerialSpec : ChangeSpec := { name := "distSerial", fn := fun _ => fun
  | [d1, d2, d3, d4, d5] => { results := [.lit (.bool true)], args := [d1, d2, d3, d4, d5] }
  | _ => none }
def distSerialRow : OpenClaim := { program := "ytolejdhnnchfpaagreatdoor", sum := "d25d1a4968c38c0a2686fe332005658b3f044ff7afcad837d941944ea2c72390", func := "clockwork/clockworklaw32.DistSerial", spec := "distSerial", inPlace := ["slices.overlaps[clockwork/api.LockQueue]", "internal/bytealg.abigen_runtime_cmpstring", "slices.overlaps[string]"], unfollowed := true, recurses := true, named := ["internal/strconv.uint64pow10", "math/bits.deBruijn32tab", "math/bits.deBruijn64tab"], loops := true, apart := false, laid := [("math/bits.deBruijn32tab", laid_math_bits_deBruijn32tab), ("math/bits.deBruijn64tab", laid_math_bits_deBruijn64tab), ("internal/strconv.uint64pow10", laid_internal_strconv_uint64pow10)] }
def DistSerialSaid : Prop := distSerialRow.holds Tryz.pinned (OpenSpec.ofChange distSerialSpec)

/-- ITS FALSE NEIGHBOUR: 'it returns false'. Refute it at one input. -/
def distSerialWrong : ChangeSpec := { name := "distSerial", fn := fun _ => fun
  | [d1, d2, d3, d4, d5] => { results := [.lit (.bool false)], args := [d1, d2, d3, d4, d5] }
  | _ => none }
def DistSerialWrongFalsely : Prop := distSerialRow.holds Tryz.pinned (OpenSpec.ofChange distSerialWrong)

/-- 'clockworklaw32.DistChoices': WHATEVER THE INPUT: true; the input reads as it did. -/
def distChoicesSpec : ChangeSpec := { name := "distChoices", fn := fun _ => fun
  | [d1, d2, d3, d4, d5, d6] => { results := [.lit (.bool true)], args := [d1, d2, d3, d4, d5, d6] }
  | _ => none }
def distChoicesRow : OpenClaim := { program := "ytolejdhnnchfpaagreatdoor", sum := "d25d1a4968c38c0a2686fe332005658b3f044ff7afcad837d941944ea2c72390", func := "clockwork/clockworklaw32.DistChoices", spec := "distChoices", inPlace := ["slices.overlaps[clockwork/api.LockQueue]", "internal/bytealg.abigen_runtime_cmpstring", "slices.overlaps[string]"], unfollowed := true, recurses := true, named := ["internal/strconv.uint64pow10", "math/bits.deBruijn32tab", "math/bits.deBruijn64tab"], loops := true, apart := false, laid := [("math/bits.deBruijn32tab", laid_math_bits_deBruijn32tab), ("math/bits.deBruijn64tab", laid_math_bits_deBruijn64tab), ("internal/strconv.uint64pow10", laid_internal_strconv_uint64pow10)] }
def DistChoicesSaid : Prop := distChoicesRow.holds Tryz.pinned (OpenSpec.ofChange distChoicesSpec)

/-- ITS FALSE NEIGHBOUR: 'it returns false'. Refute it at one input. -/
def distChoicesWrong : ChangeSpec := { name := "distChoices", fn := fun _ => fun
  | [d1, d2, d3, d4, d5, d6] => { results := [.lit (.bool false)], args := [d1, d2, d3, d4, d5, d6] }
  | _ => none }
def DistChoicesWrongFalsely : Prop := distChoicesRow.holds Tryz.pinned (OpenSpec.ofChange distChoicesWrong)

/-- 'clockworklaw32.DistGathers': WHATEVER THE INPUT: true; the input reads as it did. -/
def distGathersSpec : ChangeSpec := { name := "distGathers", fn := fun _ => fun
  | [d] => { results := [.lit (.bool true)], args := [d] }
  | _ => none }
def distGathersRow : OpenClaim := { program := "ytolejdhnnchfpaagreatdoor", sum := "d25d1a4968c38c0a2686fe332005658b3f044ff7afcad837d941944ea2c72390", func := "clockwork/clockworklaw32.DistGathers", spec := "distGathers", inPlace := ["internal/bytealg.abigen_runtime_cmpstring", "slices.overlaps[clockwork/api.LockQueue]", "slices.overlaps[string]"], unfollowed := true, recurses := true, named := ["internal/strconv.uint64pow10", "math/bits.deBruijn32tab", "math/bits.deBruijn64tab"], apart := false, laid := [("math/bits.deBruijn32tab", laid_math_bits_deBruijn32tab), ("math/bits.deBruijn64tab", laid_math_bits_deBruijn64tab), ("internal/strconv.uint64pow10", laid_internal_strconv_uint64pow10)] }
def DistGathersSaid : Prop := distGathersRow.holds Tryz.pinned (OpenSpec.ofChange distGathersSpec)

/-- ITS FALSE NEIGHBOUR: 'it returns false'. Refute it at one input. -/
def distGathersWrong : ChangeSpec := { name := "distGathers", fn := fun _ => fun
  | [d] => { results := [.lit (.bool false)], args := [d] }
  | _ => none }
def DistGathersWrongFalsely : Prop := distGathersRow.holds Tryz.pinned (OpenSpec.ofChange distGathersWrong)

/-- 'clockworklaw32.DistConserves': WHATEVER THE INPUT: true; the input reads as it did. -/
def distConservesSpec : ChangeSpec := { name := "distConserves", fn := fun _ => fun
  | [d1, d2, d3, d4, d5] => { results := [.lit (.bool true)], args := [d1, d2, d3, d4, d5] }
  | _ => none }
def distConservesRow : OpenClaim := { program := "ytolejdhnnchfpaagreatdoor", sum := "d25d1a4968c38c0a2686fe332005658b3f044ff7afcad837d941944ea2c72390", func := "clockwork/clockworklaw32.DistConserves", spec := "distConserves", inPlace := ["slices.overlaps[clockwork/api.LockQueue]", "internal/bytealg.abigen_runtime_cmpstring", "slices.overlaps[string]"], unfollowed := true, recurses := true, named := ["internal/strconv.uint64pow10", "math/bits.deBruijn32tab", "math/bits.deBruijn64tab"], loops := true, apart := false, laid := [("math/bits.deBruijn32tab", laid_math_bits_deBruijn32tab), ("math/bits.deBruijn64tab", laid_math_bits_deBruijn64tab), ("internal/strconv.uint64pow10", laid_internal_strconv_uint64pow10)] }
def DistConservesSaid : Prop := distConservesRow.holds Tryz.pinned (OpenSpec.ofChange distConservesSpec)

/-- ITS FALSE NEIGHBOUR: 'it returns false'. Refute it at one input. -/
def distConservesWrong : ChangeSpec := { name := "distConserves", fn := fun _ => fun
  | [d1, d2, d3, d4, d5] => { results := [.lit (.bool false)], args := [d1, d2, d3, d4, d5] }
  | _ => none }
def DistConservesWrongFalsely : Prop := distConservesRow.holds Tryz.pinned (OpenSpec.ofChange distConservesWrong)

/-- 'clockworklaw32.DistMoves': WHATEVER THE INPUT: true; the input reads as it did. -/
def distMovesSpec : ChangeSpec := { name := "distMoves", fn := fun _ => fun
  | [d1, d2, d3, d4, d5, d6] => { results := [.lit (.bool true)], args := [d1, d2, d3, d4, d5, d6] }
  | _ => none }
def distMovesRow : OpenClaim := { program := "ytolejdhnnchfpaagreatdoor", sum := "d25d1a4968c38c0a2686fe332005658b3f044ff7afcad837d941944ea2c72390", func := "clockwork/clockworklaw32.DistMoves", spec := "distMoves", inPlace := ["slices.overlaps[clockwork/api.LockQueue]", "internal/bytealg.abigen_runtime_cmpstring", "slices.overlaps[string]"], unfollowed := true, recurses := true, named := ["internal/strconv.uint64pow10", "math/bits.deBruijn32tab", "math/bits.deBruijn64tab"], loops := true, apart := false, laid := [("math/bits.deBruijn32tab", laid_math_bits_deBruijn32tab), ("math/bits.deBruijn64tab", laid_math_bits_deBruijn64tab), ("internal/strconv.uint64pow10", laid_internal_strconv_uint64pow10)] }
def DistMovesSaid : Prop := distMovesRow.holds Tryz.pinned (OpenSpec.ofChange distMovesSpec)

/-- ITS FALSE NEIGHBOUR: 'it returns false'. Refute it at one input. -/
def distMovesWrong : ChangeSpec := { name := "distMoves", fn := fun _ => fun
  | [d1, d2, d3, d4, d5, d6] => { results := [.lit (.bool false)], args := [d1, d2, d3, d4, d5, d6] }
  | _ => none }
def DistMovesWrongFalsely : Prop := distMovesRow.holds Tryz.pinned (OpenSpec.ofChange distMovesWrong)

/- THE SECOND FORM. 'bulk': how many values and letters a reading holds, each counted each time it is reached (what is shared counts as often as it is met; a slice's spare places count too). A statement '..UptoSaid' is the law's where the arguments, and the package variables that the reading takes, are together of bulk at most 1048576: NARROWER than '..Said'. Prove '..Said' where nothing that the law and all that it calls make is longer than what came in: it says more and counts as full. Else prove '..UptoSaid'. A law counts once. -/
mutual
def uptoBulk {H : Type} : DataW H → Nat
  | .lit (.string bytes) => bytes.length + 1
  | .lit _ => 1
  | .nil => 1
  | .ptr d => uptoBulk d + 1
  | .slice elems spare => uptoBulkAll elems + uptoBulkAll spare + 1
  | .agg parts => uptoBulkAll parts + 1
  | .iface _ d => uptoBulk d + 1
  | .map entries => uptoBulkEntries entries + 1
  | .held _ => 1
def uptoBulkAll {H : Type} : List (DataW H) → Nat
  | [] => 0
  | d :: r => uptoBulk d + uptoBulkAll r
def uptoBulkEntries {H : Type} : List (Lit × DataW H) → Nat
  | [] => 0
  | x :: r => uptoBulkEntry x + uptoBulkEntries r
def uptoBulkEntry {H : Type} : Lit × DataW H → Nat
  | (.string bytes, d) => bytes.length + uptoBulk d + 1
  | (_, d) => uptoBulk d + 1
 end
def uptoSmall : (H : Type) → List (DataW H) → Bool := fun _ ds => decide (uptoBulkAll ds ≤ 1048576)
def OpenSpec.upto (s : _root_.Go.ChangeSpec) : _root_.Go.OpenSpec := { _root_.Go.OpenSpec.ofChange s with cond := some uptoSmall }

/-- 'clockworklaw32.DistValidates', WHERE WHAT IT READS IS OF BULK AT MOST 1048576: true; the input reads as it did. -/
def distValidatesUptoRow : OpenClaim := { program := "ytolejdhnnchfpaagreatdoor", sum := "d25d1a4968c38c0a2686fe332005658b3f044ff7afcad837d941944ea2c72390", func := "clockwork/clockworklaw32.DistValidates", spec := "distValidates", inPlace := ["slices.overlaps[clockwork/api.LockQueue]", "internal/bytealg.abigen_runtime_cmpstring", "slices.overlaps[string]"], unfollowed := true, recurses := true, named := ["internal/strconv.uint64pow10", "math/bits.deBruijn32tab", "math/bits.deBruijn64tab"], apart := false, laid := [("math/bits.deBruijn32tab", laid_math_bits_deBruijn32tab), ("math/bits.deBruijn64tab", laid_math_bits_deBruijn64tab), ("internal/strconv.uint64pow10", laid_internal_strconv_uint64pow10)], narrowed := true }
def DistValidatesUptoSaid : Prop := distValidatesUptoRow.holds Tryz.pinned (OpenSpec.upto distValidatesSpec)

/-- 'clockworklaw32.DistLoads', WHERE WHAT IT READS IS OF BULK AT MOST 1048576: true; the input reads as it did. -/
def distLoadsUptoRow : OpenClaim := { program := "ytolejdhnnchfpaagreatdoor", sum := "d25d1a4968c38c0a2686fe332005658b3f044ff7afcad837d941944ea2c72390", func := "clockwork/clockworklaw32.DistLoads", spec := "distLoads", inPlace := ["slices.overlaps[clockwork/api.LockQueue]", "internal/bytealg.abigen_runtime_cmpstring", "slices.overlaps[string]"], unfollowed := true, recurses := true, named := ["internal/strconv.uint64pow10", "math/bits.deBruijn32tab", "math/bits.deBruijn64tab"], apart := false, laid := [("math/bits.deBruijn32tab", laid_math_bits_deBruijn32tab), ("math/bits.deBruijn64tab", laid_math_bits_deBruijn64tab), ("internal/strconv.uint64pow10", laid_internal_strconv_uint64pow10)], narrowed := true }
def DistLoadsUptoSaid : Prop := distLoadsUptoRow.holds Tryz.pinned (OpenSpec.upto distLoadsSpec)

/-- 'clockworklaw32.DistSerial', WHERE WHAT IT READS IS OF BULK AT MOST 1048576: true; the input reads as it did. -/
def distSerialUptoRow : OpenClaim := { program := "ytolejdhnnchfpaagreatdoor", sum := "d25d1a4968c38c0a2686fe332005658b3f044ff7afcad837d941944ea2c72390", func := "clockwork/clockworklaw32.DistSerial", spec := "distSerial", inPlace := ["slices.overlaps[clockwork/api.LockQueue]", "internal/bytealg.abigen_runtime_cmpstring", "slices.overlaps[string]"], unfollowed := true, recurses := true, named := ["internal/strconv.uint64pow10", "math/bits.deBruijn32tab", "math/bits.deBruijn64tab"], loops := true, apart := false, laid := [("math/bits.deBruijn32tab", laid_math_bits_deBruijn32tab), ("math/bits.deBruijn64tab", laid_math_bits_deBruijn64tab), ("internal/strconv.uint64pow10", laid_internal_strconv_uint64pow10)], narrowed := true }
def DistSerialUptoSaid : Prop := distSerialUptoRow.holds Tryz.pinned (OpenSpec.upto distSerialSpec)

/-- 'clockworklaw32.DistChoices', WHERE WHAT IT READS IS OF BULK AT MOST 1048576: true; the input reads as it did. -/
def distChoicesUptoRow : OpenClaim := { program := "ytolejdhnnchfpaagreatdoor", sum := "d25d1a4968c38c0a2686fe332005658b3f044ff7afcad837d941944ea2c72390", func := "clockwork/clockworklaw32.DistChoices", spec := "distChoices", inPlace := ["slices.overlaps[clockwork/api.LockQueue]", "internal/bytealg.abigen_runtime_cmpstring", "slices.overlaps[string]"], unfollowed := true, recurses := true, named := ["internal/strconv.uint64pow10", "math/bits.deBruijn32tab", "math/bits.deBruijn64tab"], loops := true, apart := false, laid := [("math/bits.deBruijn32tab", laid_math_bits_deBruijn32tab), ("math/bits.deBruijn64tab", laid_math_bits_deBruijn64tab), ("internal/strconv.uint64pow10", laid_internal_strconv_uint64pow10)], narrowed := true }
def DistChoicesUptoSaid : Prop := distChoicesUptoRow.holds Tryz.pinned (OpenSpec.upto distChoicesSpec)

/-- 'clockworklaw32.DistGathers', WHERE WHAT IT READS IS OF BULK AT MOST 1048576: true; the input reads as it did. -/
def distGathersUptoRow : OpenClaim := { program := "ytolejdhnnchfpaagreatdoor", sum := "d25d1a4968c38c0a2686fe332005658b3f044ff7afcad837d941944ea2c72390", func := "clockwork/clockworklaw32.DistGathers", spec := "distGathers", inPlace := ["internal/bytealg.abigen_runtime_cmpstring", "slices.overlaps[clockwork/api.LockQueue]", "slices.overlaps[string]"], unfollowed := true, recurses := true, named := ["internal/strconv.uint64pow10", "math/bits.deBruijn32tab", "math/bits.deBruijn64tab"], apart := false, laid := [("math/bits.deBruijn32tab", laid_math_bits_deBruijn32tab), ("math/bits.deBruijn64tab", laid_math_bits_deBruijn64tab), ("internal/strconv.uint64pow10", laid_internal_strconv_uint64pow10)], narrowed := true }
def DistGathersUptoSaid : Prop := distGathersUptoRow.holds Tryz.pinned (OpenSpec.upto distGathersSpec)

/-- 'clockworklaw32.DistConserves', WHERE WHAT IT READS IS OF BULK AT MOST 1048576: true; the input reads as it did. -/
def distConservesUptoRow : OpenClaim := { program := "ytolejdhnnchfpaagreatdoor", sum := "d25d1a4968c38c0a2686fe332005658b3f044ff7afcad837d941944ea2c72390", func := "clockwork/clockworklaw32.DistConserves", spec := "distConserves", inPlace := ["slices.overlaps[clockwork/api.LockQueue]", "internal/bytealg.abigen_runtime_cmpstring", "slices.overlaps[string]"], unfollowed := true, recurses := true, named := ["internal/strconv.uint64pow10", "math/bits.deBruijn32tab", "math/bits.deBruijn64tab"], loops := true, apart := false, laid := [("math/bits.deBruijn32tab", laid_math_bits_deBruijn32tab), ("math/bits.deBruijn64tab", laid_math_bits_deBruijn64tab), ("internal/strconv.uint64pow10", laid_internal_strconv_uint64pow10)], narrowed := true }
def DistConservesUptoSaid : Prop := distConservesUptoRow.holds Tryz.pinned (OpenSpec.upto distConservesSpec)

/-- 'clockworklaw32.DistMoves', WHERE WHAT IT READS IS OF BULK AT MOST 1048576: true; the input reads as it did. -/
def distMovesUptoRow : OpenClaim := { program := "ytolejdhnnchfpaagreatdoor", sum := "d25d1a4968c38c0a2686fe332005658b3f044ff7afcad837d941944ea2c72390", func := "clockwork/clockworklaw32.DistMoves", spec := "distMoves", inPlace := ["slices.overlaps[clockwork/api.LockQueue]", "internal/bytealg.abigen_runtime_cmpstring", "slices.overlaps[string]"], unfollowed := true, recurses := true, named := ["internal/strconv.uint64pow10", "math/bits.deBruijn32tab", "math/bits.deBruijn64tab"], loops := true, apart := false, laid := [("math/bits.deBruijn32tab", laid_math_bits_deBruijn32tab), ("math/bits.deBruijn64tab", laid_math_bits_deBruijn64tab), ("internal/strconv.uint64pow10", laid_internal_strconv_uint64pow10)], narrowed := true }
def DistMovesUptoSaid : Prop := distMovesUptoRow.holds Tryz.pinned (OpenSpec.upto distMovesSpec)

end Rows
end Go.Proofs.YtolejdhnnchfpaaGreatDoor
