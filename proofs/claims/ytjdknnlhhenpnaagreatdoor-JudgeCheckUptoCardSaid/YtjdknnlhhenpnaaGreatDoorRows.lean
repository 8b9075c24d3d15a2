/-
  NARROWER THAN 'FOR EVERY INPUT', by the rows' own cells (each row's printed sentence says how): JudgeCheck: loops, laid · JudgeHas: loops, laid · JudgeStates: loops, laid · JudgeBody: loops, laid · JudgeTrees: loops, laid · JudgeOwn: loops, laid · JudgeWeaker: loops, laid · JudgeSubst: loops, laid · JudgeMore: loops, laid.
  DERIVED. THE GIVEN ROWS OF THIS SEAT. 9 by the template 'for every input the law returns true; each argument reads behind the call as it read before'; 0 by the template 'total and deterministic' (their statements: YtjdknnlhhenpnaaGreatDoorTotals.lean).
  GIVEN WITH THE SEED: the statements are not yours to turn. If you find one false, say at which input.
  Laid BY PROGRAM, IN A SANDBOX (cutbox-rows.mjs): the forced cells as the released guide's own fill.sh prints them over the translation c12295d708458c97… (all of the seat's roots in one cut). By AI agents, Wed Nov 11 2026. No macro, syntax, notation, axiom, sorry.
-/
import Derived.Test.YtjdknnlhhenpnaaGreatDoorChecked
import GoSem.Claim
import GoSem.ClaimJoined
import GoSem.ClaimMapViews
import Derived.JoinedTies
import Derived.KernelRfl
namespace Go.Proofs.YtjdknnlhhenpnaaGreatDoor
/- THE CELL 'sum', in the pinned program and in every row, IS THE sha256 OF THE DUMP (.gsa) THAT YtjdknnlhhenpnaaGreatDoorProg.lean LOADS. Nothing in Lean hashes anything: it is a label: what it is worth is what the hold of that sum in a sandbox is worth. -/
noncomputable def Tryz.pinned : Pinned := { name := "ytjdknnlhhenpnaagreatdoor", sum := "c12295d708458c971e1ed4f6453448a39164e45bf0bc5e1e7fc88b6422551510", checked := Tryz.checked }
namespace Rows
def none {H : Type} : Left H := { results := [], args := [] }

/- WHAT THE LISTED PACKAGE-LEVEL VARIABLES READ AS WHEN THE CALL BEGINS. Each datum BY PROGRAM (the guide's laid-datum.mjs) off the statement by which the dump's own 'gosem.cut.vars' lays the variable. In a bare row this is a premise. The card (YtjdknnlhhenpnaaGreatDoorCards.lean) ties it to the program's text. -/
def laid_math_bits_deBruijn32tab {H : Type} : DataW H := .agg [.lit (.int .u8 0), .lit (.int .u8 1), .lit (.int .u8 28), .lit (.int .u8 2), .lit (.int .u8 29), .lit (.int .u8 14), .lit (.int .u8 24), .lit (.int .u8 3), .lit (.int .u8 30), .lit (.int .u8 22), .lit (.int .u8 20), .lit (.int .u8 15), .lit (.int .u8 25), .lit (.int .u8 17), .lit (.int .u8 4), .lit (.int .u8 8), .lit (.int .u8 31), .lit (.int .u8 27), .lit (.int .u8 13), .lit (.int .u8 23), .lit (.int .u8 21), .lit (.int .u8 19), .lit (.int .u8 16), .lit (.int .u8 7), .lit (.int .u8 26), .lit (.int .u8 12), .lit (.int .u8 18), .lit (.int .u8 6), .lit (.int .u8 11), .lit (.int .u8 5), .lit (.int .u8 10), .lit (.int .u8 9)]
def laid_math_bits_deBruijn64tab {H : Type} : DataW H := .agg [.lit (.int .u8 0), .lit (.int .u8 1), .lit (.int .u8 56), .lit (.int .u8 2), .lit (.int .u8 57), .lit (.int .u8 49), .lit (.int .u8 28), .lit (.int .u8 3), .lit (.int .u8 61), .lit (.int .u8 58), .lit (.int .u8 42), .lit (.int .u8 50), .lit (.int .u8 38), .lit (.int .u8 29), .lit (.int .u8 17), .lit (.int .u8 4), .lit (.int .u8 62), .lit (.int .u8 47), .lit (.int .u8 59), .lit (.int .u8 36), .lit (.int .u8 45), .lit (.int .u8 43), .lit (.int .u8 51), .lit (.int .u8 22), .lit (.int .u8 53), .lit (.int .u8 39), .lit (.int .u8 33), .lit (.int .u8 30), .lit (.int .u8 24), .lit (.int .u8 18), .lit (.int .u8 12), .lit (.int .u8 5), .lit (.int .u8 63), .lit (.int .u8 55), .lit (.int .u8 48), .lit (.int .u8 27), .lit (.int .u8 60), .lit (.int .u8 41), .lit (.int .u8 37), .lit (.int .u8 16), .lit (.int .u8 46), .lit (.int .u8 35), .lit (.int .u8 44), .lit (.int .u8 21), .lit (.int .u8 52), .lit (.int .u8 32), .lit (.int .u8 23), .lit (.int .u8 11), .lit (.int .u8 54), .lit (.int .u8 26), .lit (.int .u8 40), .lit (.int .u8 15), .lit (.int .u8 34), .lit (.int .u8 20), .lit (.int .u8 31), .lit (.int .u8 10), .lit (.int .u8 25), .lit (.int .u8 14), .lit (.int .u8 19), .lit (.int .u8 9), .lit (.int .u8 13), .lit (.int .u8 8), .lit (.int .u8 7), .lit (.int .u8 6)]
def laid_internal_strconv_uint64pow10 {H : Type} : DataW H := .agg [.lit (.int .u64 1), .lit (.int .u64 10), .lit (.int .u64 100), .lit (.int .u64 1000), .lit (.int .u64 10000), .lit (.int .u64 100000), .lit (.int .u64 1000000), .lit (.int .u64 10000000), .lit (.int .u64 100000000), .lit (.int .u64 1000000000), .lit (.int .u64 10000000000), .lit (.int .u64 100000000000), .lit (.int .u64 1000000000000), .lit (.int .u64 10000000000000), .lit (.int .u64 100000000000000), .lit (.int .u64 1000000000000000), .lit (.int .u64 10000000000000000), .lit (.int .u64 100000000000000000), .lit (.int .u64 1000000000000000000), .lit (.int .u64 10000000000000000000)]

/-- 'virgationlaw14.JudgeCheck': WHATEVER THE INPUT: true; the input reads as it did. -/
def judgeCheckSpec : ChangeSpec := { name := "judgeCheck", fn := fun _ => fun
  | [d1, d2, d3] => { results := [.lit (.bool true)], args := [d1, d2, d3] }
  | _ => none }
def judgeCheckRow : OpenClaim := { program := "ytjdknnlhhenpnaagreatdoor", sum := "c12295d708458c971e1ed4f6453448a39164e45bf0bc5e1e7fc88b6422551510", func := "virgation/virgationlaw14.JudgeCheck", spec := "judgeCheck", inPlace := ["internal/abi.NoEscape"], unfollowed := true, recurses := true, named := ["internal/strconv.uint64pow10", "math/bits.deBruijn32tab", "math/bits.deBruijn64tab"], loops := true, plainKeys := false, apart := false, laid := [("math/bits.deBruijn32tab", laid_math_bits_deBruijn32tab), ("math/bits.deBruijn64tab", laid_math_bits_deBruijn64tab), ("internal/strconv.uint64pow10", laid_internal_strconv_uint64pow10)] }
def JudgeCheckSaid : Prop := judgeCheckRow.holds Tryz.pinned (OpenSpec.ofChange judgeCheckSpec)

/-- ITS FALSE NEIGHBOUR: 'it returns false'. Refute it at one input. -/
def judgeCheckWrong : ChangeSpec := { name := "judgeCheck", fn := fun _ => fun
  | [d1, d2, d3] => { results := [.lit (.bool false)], args := [d1, d2, d3] }
  | _ => none }
def JudgeCheckWrongFalsely : Prop := judgeCheckRow.holds Tryz.pinned (OpenSpec.ofChange judgeCheckWrong)

/-- 'virgationlaw14.JudgeHas': WHATEVER THE INPUT: true; the input reads as it did. -/
def judgeHasSpec : ChangeSpec := { name := "judgeHas", fn := fun _ => fun
  | [d1, d2, d3, d4, d5] => { results := [.lit (.bool true)], args := [d1, d2, d3, d4, d5] }
  | _ => none }
def judgeHasRow : OpenClaim := { program := "ytjdknnlhhenpnaagreatdoor", sum := "c12295d708458c971e1ed4f6453448a39164e45bf0bc5e1e7fc88b6422551510", func := "virgation/virgationlaw14.JudgeHas", spec := "judgeHas", inPlace := ["internal/abi.NoEscape"], unfollowed := true, recurses := true, named := ["internal/strconv.uint64pow10", "math/bits.deBruijn32tab", "math/bits.deBruijn64tab"], loops := true, plainKeys := false, apart := false, laid := [("math/bits.deBruijn32tab", laid_math_bits_deBruijn32tab), ("math/bits.deBruijn64tab", laid_math_bits_deBruijn64tab), ("internal/strconv.uint64pow10", laid_internal_strconv_uint64pow10)] }
def JudgeHasSaid : Prop := judgeHasRow.holds Tryz.pinned (OpenSpec.ofChange judgeHasSpec)

/-- ITS FALSE NEIGHBOUR: 'it returns false'. Refute it at one input. -/
def judgeHasWrong : ChangeSpec := { name := "judgeHas", fn := fun _ => fun
  | [d1, d2, d3, d4, d5] => { results := [.lit (.bool false)], args := [d1, d2, d3, d4, d5] }
  | _ => none }
def JudgeHasWrongFalsely : Prop := judgeHasRow.holds Tryz.pinned (OpenSpec.ofChange judgeHasWrong)

/-- 'virgationlaw14.JudgeStates': WHATEVER THE INPUT: true; the input reads as it did. -/
def judgeStatesSpec : ChangeSpec := { name := "judgeStates", fn := fun _ => fun
  | [d1, d2, d3, d4] => { results := [.lit (.bool true)], args := [d1, d2, d3, d4] }
  | _ => none }
def judgeStatesRow : OpenClaim := { program := "ytjdknnlhhenpnaagreatdoor", sum := "c12295d708458c971e1ed4f6453448a39164e45bf0bc5e1e7fc88b6422551510", func := "virgation/virgationlaw14.JudgeStates", spec := "judgeStates", inPlace := ["internal/abi.NoEscape"], unfollowed := true, recurses := true, named := ["internal/strconv.uint64pow10", "math/bits.deBruijn32tab", "math/bits.deBruijn64tab"], loops := true, plainKeys := false, apart := false, laid := [("math/bits.deBruijn32tab", laid_math_bits_deBruijn32tab), ("math/bits.deBruijn64tab", laid_math_bits_deBruijn64tab), ("internal/strconv.uint64pow10", laid_internal_strconv_uint64pow10)] }
def JudgeStatesSaid : Prop := judgeStatesRow.holds Tryz.pinned (OpenSpec.ofChange judgeStatesSpec)

/-- ITS FALSE NEIGHBOUR: 'it returns false'. Refute it at one input. -/
def judgeStatesWrong : ChangeSpec := { name := "judgeStates", fn := fun _ => fun
  | [d1, d2, d3, d4] => { results := [.lit (.bool false)], args := [d1, d2, d3, d4] }
  | _ => none }
def JudgeStatesWrongFalsely : Prop := judgeStatesRow.holds Tryz.pinned (OpenSpec.ofChange judgeStatesWrong)

/-- 'virgationlaw14.JudgeBody': WHATEVER THE INPUT: true; the input reads as it did. -/
def judgeBodySpec : ChangeSpec := { name := "judgeBody", fn := fun _ => fun
  | [d1, d2, d3, d4] => { results := [.lit (.bool true)], args := [d1, d2, d3, d4] }
  | _ => none }
def judgeBodyRow : OpenClaim := { program := "ytjdknnlhhenpnaagreatdoor", sum := "c12295d708458c971e1ed4f6453448a39164e45bf0bc5e1e7fc88b6422551510", func := "virgation/virgationlaw14.JudgeBody", spec := "judgeBody", inPlace := ["internal/abi.NoEscape"], unfollowed := true, recurses := true, named := ["internal/strconv.uint64pow10", "math/bits.deBruijn32tab", "math/bits.deBruijn64tab"], loops := true, plainKeys := false, apart := false, laid := [("math/bits.deBruijn32tab", laid_math_bits_deBruijn32tab), ("math/bits.deBruijn64tab", laid_math_bits_deBruijn64tab), ("internal/strconv.uint64pow10", laid_internal_strconv_uint64pow10)] }
def JudgeBodySaid : Prop := judgeBodyRow.holds Tryz.pinned (OpenSpec.ofChange judgeBodySpec)

/-- ITS FALSE NEIGHBOUR: 'it returns false'. Refute it at one input. -/
def judgeBodyWrong : ChangeSpec := { name := "judgeBody", fn := fun _ => fun
  | [d1, d2, d3, d4] => { results := [.lit (.bool false)], args := [d1, d2, d3, d4] }
  | _ => none }
def JudgeBodyWrongFalsely : Prop := judgeBodyRow.holds Tryz.pinned (OpenSpec.ofChange judgeBodyWrong)

/-- 'virgationlaw14.JudgeTrees': WHATEVER THE INPUT: true; the input reads as it did. -/
def judgeTreesSpec : ChangeSpec := { name := "judgeTrees", fn := fun _ => fun
  | [d1, d2, d3, d4] => { results := [.lit (.bool true)], args := [d1, d2, d3, d4] }
  | _ => none }
def judgeTreesRow : OpenClaim := { program := "ytjdknnlhhenpnaagreatdoor", sum := "c12295d708458c971e1ed4f6453448a39164e45bf0bc5e1e7fc88b6422551510", func := "virgation/virgationlaw14.JudgeTrees", spec := "judgeTrees", inPlace := ["internal/abi.NoEscape"], unfollowed := true, recurses := true, named := ["internal/strconv.uint64pow10", "math/bits.deBruijn32tab", "math/bits.deBruijn64tab"], loops := true, plainKeys := false, apart := false, laid := [("math/bits.deBruijn32tab", laid_math_bits_deBruijn32tab), ("math/bits.deBruijn64tab", laid_math_bits_deBruijn64tab), ("internal/strconv.uint64pow10", laid_internal_strconv_uint64pow10)] }
def JudgeTreesSaid : Prop := judgeTreesRow.holds Tryz.pinned (OpenSpec.ofChange judgeTreesSpec)

/-- ITS FALSE NEIGHBOUR: 'it returns false'. Refute it at one input. -/
def judgeTreesWrong : ChangeSpec := { name := "judgeTrees", fn := fun _ => fun
  | [d1, d2, d3, d4] => { results := [.lit (.bool false)], args := [d1, d2, d3, d4] }
  | _ => none }
def JudgeTreesWrongFalsely : Prop := judgeTreesRow.holds Tryz.pinned (OpenSpec.ofChange judgeTreesWrong)

/-- 'virgationlaw14.JudgeOwn': WHATEVER THE INPUT: true; the input reads as it did. -/
def judgeOwnSpec : ChangeSpec := { name := "judgeOwn", fn := fun _ => fun
  | [d1, d2, d3, d4, d5] => { results := [.lit (.bool true)], args := [d1, d2, d3, d4, d5] }
  | _ => none }
def judgeOwnRow : OpenClaim := { program := "ytjdknnlhhenpnaagreatdoor", sum := "c12295d708458c971e1ed4f6453448a39164e45bf0bc5e1e7fc88b6422551510", func := "virgation/virgationlaw14.JudgeOwn", spec := "judgeOwn", inPlace := ["internal/abi.NoEscape"], unfollowed := true, recurses := true, named := ["internal/strconv.uint64pow10", "math/bits.deBruijn32tab", "math/bits.deBruijn64tab"], loops := true, plainKeys := false, apart := false, laid := [("math/bits.deBruijn32tab", laid_math_bits_deBruijn32tab), ("math/bits.deBruijn64tab", laid_math_bits_deBruijn64tab), ("internal/strconv.uint64pow10", laid_internal_strconv_uint64pow10)] }
def JudgeOwnSaid : Prop := judgeOwnRow.holds Tryz.pinned (OpenSpec.ofChange judgeOwnSpec)

/-- ITS FALSE NEIGHBOUR: 'it returns false'. Refute it at one input. -/
def judgeOwnWrong : ChangeSpec := { name := "judgeOwn", fn := fun _ => fun
  | [d1, d2, d3, d4, d5] => { results := [.lit (.bool false)], args := [d1, d2, d3, d4, d5] }
  | _ => none }
def JudgeOwnWrongFalsely : Prop := judgeOwnRow.holds Tryz.pinned (OpenSpec.ofChange judgeOwnWrong)

/-- 'virgationlaw14.JudgeWeaker': WHATEVER THE INPUT: true; the input reads as it did. -/
def judgeWeakerSpec : ChangeSpec := { name := "judgeWeaker", fn := fun _ => fun
  | [d1, d2, d3, d4, d5, d6, d7, d8] => { results := [.lit (.bool true)], args := [d1, d2, d3, d4, d5, d6, d7, d8] }
  | _ => none }
def judgeWeakerRow : OpenClaim := { program := "ytjdknnlhhenpnaagreatdoor", sum := "c12295d708458c971e1ed4f6453448a39164e45bf0bc5e1e7fc88b6422551510", func := "virgation/virgationlaw14.JudgeWeaker", spec := "judgeWeaker", inPlace := ["internal/abi.NoEscape"], unfollowed := true, recurses := true, named := ["internal/strconv.uint64pow10", "math/bits.deBruijn32tab", "math/bits.deBruijn64tab"], loops := true, plainKeys := false, apart := false, laid := [("math/bits.deBruijn32tab", laid_math_bits_deBruijn32tab), ("math/bits.deBruijn64tab", laid_math_bits_deBruijn64tab), ("internal/strconv.uint64pow10", laid_internal_strconv_uint64pow10)] }
def JudgeWeakerSaid : Prop := judgeWeakerRow.holds Tryz.pinned (OpenSpec.ofChange judgeWeakerSpec)

/-- ITS FALSE NEIGHBOUR: 'it returns false'. Refute it at one input. -/
def judgeWeakerWrong : ChangeSpec := { name := "judgeWeaker", fn := fun _ => fun
  | [d1, d2, d3, d4, d5, d6, d7, d8] => { results := [.lit (.bool false)], args := [d1, d2, d3, d4, d5, d6, d7, d8] }
  | _ => none }
def JudgeWeakerWrongFalsely : Prop := judgeWeakerRow.holds Tryz.pinned (OpenSpec.ofChange judgeWeakerWrong)

/-- 'virgationlaw14.JudgeSubst': WHATEVER THE INPUT: true; the input reads as it did. -/
def judgeSubstSpec : ChangeSpec := { name := "judgeSubst", fn := fun _ => fun
  | [d1, d2, d3, d4, d5, d6, d7] => { results := [.lit (.bool true)], args := [d1, d2, d3, d4, d5, d6, d7] }
  | _ => none }
def judgeSubstRow : OpenClaim := { program := "ytjdknnlhhenpnaagreatdoor", sum := "c12295d708458c971e1ed4f6453448a39164e45bf0bc5e1e7fc88b6422551510", func := "virgation/virgationlaw14.JudgeSubst", spec := "judgeSubst", inPlace := ["internal/abi.NoEscape"], unfollowed := true, recurses := true, named := ["internal/strconv.uint64pow10", "math/bits.deBruijn32tab", "math/bits.deBruijn64tab"], loops := true, plainKeys := false, apart := false, laid := [("math/bits.deBruijn32tab", laid_math_bits_deBruijn32tab), ("math/bits.deBruijn64tab", laid_math_bits_deBruijn64tab), ("internal/strconv.uint64pow10", laid_internal_strconv_uint64pow10)] }
def JudgeSubstSaid : Prop := judgeSubstRow.holds Tryz.pinned (OpenSpec.ofChange judgeSubstSpec)

/-- ITS FALSE NEIGHBOUR: 'it returns false'. Refute it at one input. -/
def judgeSubstWrong : ChangeSpec := { name := "judgeSubst", fn := fun _ => fun
  | [d1, d2, d3, d4, d5, d6, d7] => { results := [.lit (.bool false)], args := [d1, d2, d3, d4, d5, d6, d7] }
  | _ => none }
def JudgeSubstWrongFalsely : Prop := judgeSubstRow.holds Tryz.pinned (OpenSpec.ofChange judgeSubstWrong)

/-- 'virgationlaw14.JudgeMore': WHATEVER THE INPUT: true; the input reads as it did. -/
def judgeMoreSpec : ChangeSpec := { name := "judgeMore", fn := fun _ => fun
  | [d1, d2, d3, d4, d5, d6, d7, d8] => { results := [.lit (.bool true)], args := [d1, d2, d3, d4, d5, d6, d7, d8] }
  | _ => none }
def judgeMoreRow : OpenClaim := { program := "ytjdknnlhhenpnaagreatdoor", sum := "c12295d708458c971e1ed4f6453448a39164e45bf0bc5e1e7fc88b6422551510", func := "virgation/virgationlaw14.JudgeMore", spec := "judgeMore", inPlace := ["internal/abi.NoEscape"], unfollowed := true, recurses := true, named := ["internal/strconv.uint64pow10", "math/bits.deBruijn32tab", "math/bits.deBruijn64tab"], loops := true, plainKeys := false, apart := false, laid := [("math/bits.deBruijn32tab", laid_math_bits_deBruijn32tab), ("math/bits.deBruijn64tab", laid_math_bits_deBruijn64tab), ("internal/strconv.uint64pow10", laid_internal_strconv_uint64pow10)] }
def JudgeMoreSaid : Prop := judgeMoreRow.holds Tryz.pinned (OpenSpec.ofChange judgeMoreSpec)

/-- ITS FALSE NEIGHBOUR: 'it returns false'. Refute it at one input. -/
def judgeMoreWrong : ChangeSpec := { name := "judgeMore", fn := fun _ => fun
  | [d1, d2, d3, d4, d5, d6, d7, d8] => { results := [.lit (.bool false)], args := [d1, d2, d3, d4, d5, d6, d7, d8] }
  | _ => none }
def JudgeMoreWrongFalsely : Prop := judgeMoreRow.holds Tryz.pinned (OpenSpec.ofChange judgeMoreWrong)

/- THE SECOND FORM. 'bulk': how many values and letters a reading holds, each counted each time it is reached (what is shared counts as often as it is met; a slice's spare places count too). A statement '..UptoSaid' is the law's where the arguments, and the package variables that the reading takes, are together of bulk at most 1048576: NARROWER than '..Said'. Prove '..Said' where nothing that the law and all that it calls make is longer than what came in: it says more and counts as full. Else prove '..UptoSaid'. A law counts once. -/
mutual
def uptoBulk {H : Type} : DataW H → Nat
  | .lit (.string bytes) => bytes.length + 1
  | .lit _ => 1
  | .nil => 1
  | .ptr d => uptoBulk d + 1
  | .slice elems spare => uptoBulkAll elems + uptoBulkAll spare + 1
  | .agg parts => uptoBulkAll parts + 1
  | .iface _ d => uptoBulk d + 1
  | .map entries => uptoBulkEntries entries + 1
  | .held _ => 1
def uptoBulkAll {H : Type} : List (DataW H) → Nat
  | [] => 0
  | d :: r => uptoBulk d + uptoBulkAll r
def uptoBulkEntries {H : Type} : List (Lit × DataW H) → Nat
  | [] => 0
  | x :: r => uptoBulkEntry x + uptoBulkEntries r
def uptoBulkEntry {H : Type} : Lit × DataW H → Nat
  | (.string bytes, d) => bytes.length + uptoBulk d + 1
  | (_, d) => uptoBulk d + 1
 end
def uptoSmall : (H : Type) → List (DataW H) → Bool := fun _ ds => decide (uptoBulkAll ds ≤ 1048576)
def OpenSpec.upto (s : _root_.Go.ChangeSpec) : _root_.Go.OpenSpec := { _root_.Go.OpenSpec.ofChange s with cond := some uptoSmall }

/-- 'virgationlaw14.JudgeCheck', WHERE WHAT IT READS IS OF BULK AT MOST 1048576: true; the input reads as it did. -/
def judgeCheckUptoRow : OpenClaim := { program := "ytjdknnlhhenpnaagreatdoor", sum := "c12295d708458c971e1ed4f6453448a39164e45bf0bc5e1e7fc88b6422551510", func := "virgation/virgationlaw14.JudgeCheck", spec := "judgeCheck", inPlace := ["internal/abi.NoEscape"], unfollowed := true, recurses := true, named := ["internal/strconv.uint64pow10", "math/bits.deBruijn32tab", "math/bits.deBruijn64tab"], loops := true, plainKeys := false, apart := false, laid := [("math/bits.deBruijn32tab", laid_math_bits_deBruijn32tab), ("math/bits.deBruijn64tab", laid_math_bits_deBruijn64tab), ("internal/strconv.uint64pow10", laid_internal_strconv_uint64pow10)], narrowed := true }
def JudgeCheckUptoSaid : Prop := judgeCheckUptoRow.holds Tryz.pinned (OpenSpec.upto judgeCheckSpec)

/-- 'virgationlaw14.JudgeHas', WHERE WHAT IT READS IS OF BULK AT MOST 1048576: true; the input reads as it did. -/
def judgeHasUptoRow : OpenClaim := { program := "ytjdknnlhhenpnaagreatdoor", sum := "c12295d708458c971e1ed4f6453448a39164e45bf0bc5e1e7fc88b6422551510", func := "virgation/virgationlaw14.JudgeHas", spec := "judgeHas", inPlace := ["internal/abi.NoEscape"], unfollowed := true, recurses := true, named := ["internal/strconv.uint64pow10", "math/bits.deBruijn32tab", "math/bits.deBruijn64tab"], loops := true, plainKeys := false, apart := false, laid := [("math/bits.deBruijn32tab", laid_math_bits_deBruijn32tab), ("math/bits.deBruijn64tab", laid_math_bits_deBruijn64tab), ("internal/strconv.uint64pow10", laid_internal_strconv_uint64pow10)], narrowed := true }
def JudgeHasUptoSaid : Prop := judgeHasUptoRow.holds Tryz.pinned (OpenSpec.upto judgeHasSpec)

/-- 'virgationlaw14.JudgeStates', WHERE WHAT IT READS IS OF BULK AT MOST 1048576: true; the input reads as it did. -/
def judgeStatesUptoRow : OpenClaim := { program := "ytjdknnlhhenpnaagreatdoor", sum := "c12295d708458c971e1ed4f6453448a39164e45bf0bc5e1e7fc88b6422551510", func := "virgation/virgationlaw14.JudgeStates", spec := "judgeStates", inPlace := ["internal/abi.NoEscape"], unfollowed := true, recurses := true, named := ["internal/strconv.uint64pow10", "math/bits.deBruijn32tab", "math/bits.deBruijn64tab"], loops := true, plainKeys := false, apart := false, laid := [("math/bits.deBruijn32tab", laid_math_bits_deBruijn32tab), ("math/bits.deBruijn64tab", laid_math_bits_deBruijn64tab), ("internal/strconv.uint64pow10", laid_internal_strconv_uint64pow10)], narrowed := true }
def JudgeStatesUptoSaid : Prop := judgeStatesUptoRow.holds Tryz.pinned (OpenSpec.upto judgeStatesSpec)

/-- 'virgationlaw14.JudgeBody', WHERE WHAT IT READS IS OF BULK AT MOST 1048576: true; the input reads as it did. -/
def judgeBodyUptoRow : OpenClaim := { program := "ytjdknnlhhenpnaagreatdoor", sum := "c12295d708458c971e1ed4f6453448a39164e45bf0bc5e1e7fc88b6422551510", func := "virgation/virgationlaw14.JudgeBody", spec := "judgeBody", inPlace := ["internal/abi.NoEscape"], unfollowed := true, recurses := true, named := ["internal/strconv.uint64pow10", "math/bits.deBruijn32tab", "math/bits.deBruijn64tab"], loops := true, plainKeys := false, apart := false, laid := [("math/bits.deBruijn32tab", laid_math_bits_deBruijn32tab), ("math/bits.deBruijn64tab", laid_math_bits_deBruijn64tab), ("internal/strconv.uint64pow10", laid_internal_strconv_uint64pow10)], narrowed := true }
def JudgeBodyUptoSaid : Prop := judgeBodyUptoRow.holds Tryz.pinned (OpenSpec.upto judgeBodySpec)

/-- 'virgationlaw14.JudgeTrees', WHERE WHAT IT READS IS OF BULK AT MOST 1048576: true; the input reads as it did. -/
def judgeTreesUptoRow : OpenClaim := { program := "ytjdknnlhhenpnaagreatdoor", sum := "c12295d708458c971e1ed4f6453448a39164e45bf0bc5e1e7fc88b6422551510", func := "virgation/virgationlaw14.JudgeTrees", spec := "judgeTrees", inPlace := ["internal/abi.NoEscape"], unfollowed := true, recurses := true, named := ["internal/strconv.uint64pow10", "math/bits.deBruijn32tab", "math/bits.deBruijn64tab"], loops := true, plainKeys := false, apart := false, laid := [("math/bits.deBruijn32tab", laid_math_bits_deBruijn32tab), ("math/bits.deBruijn64tab", laid_math_bits_deBruijn64tab), ("internal/strconv.uint64pow10", laid_internal_strconv_uint64pow10)], narrowed := true }
def JudgeTreesUptoSaid : Prop := judgeTreesUptoRow.holds Tryz.pinned (OpenSpec.upto judgeTreesSpec)

/-- 'virgationlaw14.JudgeOwn', WHERE WHAT IT READS IS OF BULK AT MOST 1048576: true; the input reads as it did. -/
def judgeOwnUptoRow : OpenClaim := { program := "ytjdknnlhhenpnaagreatdoor", sum := "c12295d708458c971e1ed4f6453448a39164e45bf0bc5e1e7fc88b6422551510", func := "virgation/virgationlaw14.JudgeOwn", spec := "judgeOwn", inPlace := ["internal/abi.NoEscape"], unfollowed := true, recurses := true, named := ["internal/strconv.uint64pow10", "math/bits.deBruijn32tab", "math/bits.deBruijn64tab"], loops := true, plainKeys := false, apart := false, laid := [("math/bits.deBruijn32tab", laid_math_bits_deBruijn32tab), ("math/bits.deBruijn64tab", laid_math_bits_deBruijn64tab), ("internal/strconv.uint64pow10", laid_internal_strconv_uint64pow10)], narrowed := true }
def JudgeOwnUptoSaid : Prop := judgeOwnUptoRow.holds Tryz.pinned (OpenSpec.upto judgeOwnSpec)

/-- 'virgationlaw14.JudgeWeaker', WHERE WHAT IT READS IS OF BULK AT MOST 1048576: true; the input reads as it did. -/
def judgeWeakerUptoRow : OpenClaim := { program := "ytjdknnlhhenpnaagreatdoor", sum := "c12295d708458c971e1ed4f6453448a39164e45bf0bc5e1e7fc88b6422551510", func := "virgation/virgationlaw14.JudgeWeaker", spec := "judgeWeaker", inPlace := ["internal/abi.NoEscape"], unfollowed := true, recurses := true, named := ["internal/strconv.uint64pow10", "math/bits.deBruijn32tab", "math/bits.deBruijn64tab"], loops := true, plainKeys := false, apart := false, laid := [("math/bits.deBruijn32tab", laid_math_bits_deBruijn32tab), ("math/bits.deBruijn64tab", laid_math_bits_deBruijn64tab), ("internal/strconv.uint64pow10", laid_internal_strconv_uint64pow10)], narrowed := true }
def JudgeWeakerUptoSaid : Prop := judgeWeakerUptoRow.holds Tryz.pinned (OpenSpec.upto judgeWeakerSpec)

/-- 'virgationlaw14.JudgeSubst', WHERE WHAT IT READS IS OF BULK AT MOST 1048576: true; the input reads as it did. -/
def judgeSubstUptoRow : OpenClaim := { program := "ytjdknnlhhenpnaagreatdoor", sum := "c12295d708458c971e1ed4f6453448a39164e45bf0bc5e1e7fc88b6422551510", func := "virgation/virgationlaw14.JudgeSubst", spec := "judgeSubst", inPlace := ["internal/abi.NoEscape"], unfollowed := true, recurses := true, named := ["internal/strconv.uint64pow10", "math/bits.deBruijn32tab", "math/bits.deBruijn64tab"], loops := true, plainKeys := false, apart := false, laid := [("math/bits.deBruijn32tab", laid_math_bits_deBruijn32tab), ("math/bits.deBruijn64tab", laid_math_bits_deBruijn64tab), ("internal/strconv.uint64pow10", laid_internal_strconv_uint64pow10)], narrowed := true }
def JudgeSubstUptoSaid : Prop := judgeSubstUptoRow.holds Tryz.pinned (OpenSpec.upto judgeSubstSpec)

/-- 'virgationlaw14.JudgeMore', WHERE WHAT IT READS IS OF BULK AT MOST 1048576: true; the input reads as it did. -/
def judgeMoreUptoRow : OpenClaim := { program := "ytjdknnlhhenpnaagreatdoor", sum := "c12295d708458c971e1ed4f6453448a39164e45bf0bc5e1e7fc88b6422551510", func := "virgation/virgationlaw14.JudgeMore", spec := "judgeMore", inPlace := ["internal/abi.NoEscape"], unfollowed := true, recurses := true, named := ["internal/strconv.uint64pow10", "math/bits.deBruijn32tab", "math/bits.deBruijn64tab"], loops := true, plainKeys := false, apart := false, laid := [("math/bits.deBruijn32tab", laid_math_bits_deBruijn32tab), ("math/bits.deBruijn64tab", laid_math_bits_deBruijn64tab), ("internal/strconv.uint64pow10", laid_internal_strconv_uint64pow10)], narrowed := true }
def JudgeMoreUptoSaid : Prop := judgeMoreUptoRow.holds Tryz.pinned (OpenSpec.upto judgeMoreSpec)

end Rows
end Go.Proofs.YtjdknnlhhenpnaaGreatDoor
