/-
  NARROWER THAN 'FOR EVERY INPUT', by the rows' own cells (each row's printed sentence says how): FnExactKeeperFall: laid · FnExactKeeperRise: laid · FnExactKeeperForce: laid · FnExactKeeperHas: laid · FnExactKeeperPack: laid · FnExactKeeperTime: laid · FnExactKeeperOwn: laid · FnExactKeeperEat: laid · FnExactKeeperHear: laid · FnKeeperCut: laid · FnKeeperTime: laid · FnKeeperMix: laid.
  DERIVED. THE GIVEN ROWS OF THIS SEAT. 12 by the template 'for every input the law returns true; each argument reads behind the call as it read before'; 0 by the template 'total and deterministic' (their statements: YtmabaopgkimfmaaGreatDoorTotals.lean).
  GIVEN WITH THE SEED: the statements are not yours to turn. If you find one false, say at which input.
  Laid BY PROGRAM, IN A SANDBOX (cutbox-rows.mjs): the forced cells as the released guide's own fill.sh prints them over the translation 3a99fe3440f1573b… (all of the seat's roots in one cut). By AI agents, Wed Nov 11 2026. No macro, syntax, notation, axiom, sorry.
-/
import Derived.Test.YtmabaopgkimfmaaGreatDoorChecked
import GoSem.PinnedTables
import GoSem.Claim
import GoSem.ClaimJoined
import GoSem.ClaimMapViews
import Derived.JoinedTies
import Derived.KernelRfl
namespace Go.Proofs.YtmabaopgkimfmaaGreatDoor
/- THE CELL 'sum', in the pinned program and in every row, IS THE sha256 OF THE DUMP (.gsa) THAT YtmabaopgkimfmaaGreatDoorProg.lean LOADS. Nothing in Lean hashes anything: it is a label: what it is worth is what the hold of that sum in a sandbox is worth. -/
noncomputable def Tryz.pinned : Pinned := { name := "ytmabaopgkimfmaagreatdoor", sum := "3a99fe3440f1573b104ff89312bb315a73baef0c6e0842c90f1f1ed73b3f92ca", checked := Tryz.checked }
namespace Rows
def none {H : Type} : Left H := { results := [], args := [] }

/- WHAT THE LISTED PACKAGE-LEVEL VARIABLES READ AS WHEN THE CALL BEGINS. Each datum BY PROGRAM (the guide's laid-datum.mjs) off the statement by which the dump's own 'gosem.cut.vars' lays the variable. In a bare row this is a premise. The card (YtmabaopgkimfmaaGreatDoorCards.lean) ties it to the program's text. -/
def laid_math_bits_deBruijn32tab {H : Type} : DataW H := .agg [.lit (.int .u8 0), .lit (.int .u8 1), .lit (.int .u8 28), .lit (.int .u8 2), .lit (.int .u8 29), .lit (.int .u8 14), .lit (.int .u8 24), .lit (.int .u8 3), .lit (.int .u8 30), .lit (.int .u8 22), .lit (.int .u8 20), .lit (.int .u8 15), .lit (.int .u8 25), .lit (.int .u8 17), .lit (.int .u8 4), .lit (.int .u8 8), .lit (.int .u8 31), .lit (.int .u8 27), .lit (.int .u8 13), .lit (.int .u8 23), .lit (.int .u8 21), .lit (.int .u8 19), .lit (.int .u8 16), .lit (.int .u8 7), .lit (.int .u8 26), .lit (.int .u8 12), .lit (.int .u8 18), .lit (.int .u8 6), .lit (.int .u8 11), .lit (.int .u8 5), .lit (.int .u8 10), .lit (.int .u8 9)]
def laid_math_bits_deBruijn64tab {H : Type} : DataW H := .agg [.lit (.int .u8 0), .lit (.int .u8 1), .lit (.int .u8 56), .lit (.int .u8 2), .lit (.int .u8 57), .lit (.int .u8 49), .lit (.int .u8 28), .lit (.int .u8 3), .lit (.int .u8 61), .lit (.int .u8 58), .lit (.int .u8 42), .lit (.int .u8 50), .lit (.int .u8 38), .lit (.int .u8 29), .lit (.int .u8 17), .lit (.int .u8 4), .lit (.int .u8 62), .lit (.int .u8 47), .lit (.int .u8 59), .lit (.int .u8 36), .lit (.int .u8 45), .lit (.int .u8 43), .lit (.int .u8 51), .lit (.int .u8 22), .lit (.int .u8 53), .lit (.int .u8 39), .lit (.int .u8 33), .lit (.int .u8 30), .lit (.int .u8 24), .lit (.int .u8 18), .lit (.int .u8 12), .lit (.int .u8 5), .lit (.int .u8 63), .lit (.int .u8 55), .lit (.int .u8 48), .lit (.int .u8 27), .lit (.int .u8 60), .lit (.int .u8 41), .lit (.int .u8 37), .lit (.int .u8 16), .lit (.int .u8 46), .lit (.int .u8 35), .lit (.int .u8 44), .lit (.int .u8 21), .lit (.int .u8 52), .lit (.int .u8 32), .lit (.int .u8 23), .lit (.int .u8 11), .lit (.int .u8 54), .lit (.int .u8 26), .lit (.int .u8 40), .lit (.int .u8 15), .lit (.int .u8 34), .lit (.int .u8 20), .lit (.int .u8 31), .lit (.int .u8 10), .lit (.int .u8 25), .lit (.int .u8 14), .lit (.int .u8 19), .lit (.int .u8 9), .lit (.int .u8 13), .lit (.int .u8 8), .lit (.int .u8 7), .lit (.int .u8 6)]
def laid_internal_strconv_uint64pow10 {H : Type} : DataW H := .agg [.lit (.int .u64 1), .lit (.int .u64 10), .lit (.int .u64 100), .lit (.int .u64 1000), .lit (.int .u64 10000), .lit (.int .u64 100000), .lit (.int .u64 1000000), .lit (.int .u64 10000000), .lit (.int .u64 100000000), .lit (.int .u64 1000000000), .lit (.int .u64 10000000000), .lit (.int .u64 100000000000), .lit (.int .u64 1000000000000), .lit (.int .u64 10000000000000), .lit (.int .u64 100000000000000), .lit (.int .u64 1000000000000000), .lit (.int .u64 10000000000000000), .lit (.int .u64 100000000000000000), .lit (.int .u64 1000000000000000000), .lit (.int .u64 10000000000000000000)]
def laid_unicode_utf8_acceptRanges {H : Type} : DataW H := .agg [.agg [.lit (.int .u8 128), .lit (.int .u8 191)], .agg [.lit (.int .u8 160), .lit (.int .u8 191)], .agg [.lit (.int .u8 128), .lit (.int .u8 159)], .agg [.lit (.int .u8 144), .lit (.int .u8 191)], .agg [.lit (.int .u8 128), .lit (.int .u8 143)], .agg [.lit (.int .u8 0), .lit (.int .u8 0)], .agg [.lit (.int .u8 0), .lit (.int .u8 0)], .agg [.lit (.int .u8 0), .lit (.int .u8 0)], .agg [.lit (.int .u8 0), .lit (.int .u8 0)], .agg [.lit (.int .u8 0), .lit (.int .u8 0)], .agg [.lit (.int .u8 0), .lit (.int .u8 0)], .agg [.lit (.int .u8 0), .lit (.int .u8 0)], .agg [.lit (.int .u8 0), .lit (.int .u8 0)], .agg [.lit (.int .u8 0), .lit (.int .u8 0)], .agg [.lit (.int .u8 0), .lit (.int .u8 0)], .agg [.lit (.int .u8 0), .lit (.int .u8 0)]]
/-- One of Go's own tables, pinned by name: the form's constant. -/
def laid_unicode_utf8_first : DataW Unit := Go.Pinned.utf8First

/-- 'laws.FnExactKeeperFall': WHATEVER THE INPUT: true; the input reads as it did. -/
def fnExactKeeperFallSpec : ChangeSpec := { name := "fnExactKeeperFall", fn := fun _ => fun
  | [d1, d2] => { results := [.lit (.bool true)], args := [d1, d2] }
  | _ => none }
def fnExactKeeperFallRow : OpenClaim := { program := "ytmabaopgkimfmaagreatdoor", sum := "3a99fe3440f1573b104ff89312bb315a73baef0c6e0842c90f1f1ed73b3f92ca", func := "loop.example/bargeman/laws.FnExactKeeperFall", spec := "fnExactKeeperFall", inPlace := ["internal/bytealg.IndexByteString", "internal/bytealg.IndexString", "internal/bytealg.CountString"], recurses := true, named := ["internal/bytealg.MaxLen", "unicode/utf8.first", "unicode/utf8.acceptRanges", "internal/strconv.uint64pow10", "math/bits.deBruijn32tab", "math/bits.deBruijn64tab"], apart := false, laid := [("math/bits.deBruijn32tab", laid_math_bits_deBruijn32tab), ("math/bits.deBruijn64tab", laid_math_bits_deBruijn64tab), ("internal/strconv.uint64pow10", laid_internal_strconv_uint64pow10), ("unicode/utf8.acceptRanges", laid_unicode_utf8_acceptRanges), ("unicode/utf8.first", laid_unicode_utf8_first)] }
def FnExactKeeperFallSaid : Prop := fnExactKeeperFallRow.holds Tryz.pinned (OpenSpec.ofChange fnExactKeeperFallSpec)

/-- ITS FALSE NEIGHBOUR: 'it returns false'. Refute it at one input. -/
def fnExactKeeperFallWrong : ChangeSpec := { name := "fnExactKeeperFall", fn := fun _ => fun
  | [d1, d2] => { results := [.lit (.bool false)], args := [d1, d2] }
  | _ => none }
def FnExactKeeperFallWrongFalsely : Prop := fnExactKeeperFallRow.holds Tryz.pinned (OpenSpec.ofChange fnExactKeeperFallWrong)

/-- 'laws.FnExactKeeperRise': WHATEVER THE INPUT: true; the input reads as it did. -/
def fnExactKeeperRiseSpec : ChangeSpec := { name := "fnExactKeeperRise", fn := fun _ => fun
  | [d] => { results := [.lit (.bool true)], args := [d] }
  | _ => none }
def fnExactKeeperRiseRow : OpenClaim := { program := "ytmabaopgkimfmaagreatdoor", sum := "3a99fe3440f1573b104ff89312bb315a73baef0c6e0842c90f1f1ed73b3f92ca", func := "loop.example/bargeman/laws.FnExactKeeperRise", spec := "fnExactKeeperRise", inPlace := ["internal/bytealg.IndexByteString", "internal/bytealg.IndexString", "internal/bytealg.CountString"], recurses := true, named := ["internal/bytealg.MaxLen", "unicode/utf8.first", "unicode/utf8.acceptRanges", "internal/strconv.uint64pow10", "math/bits.deBruijn32tab", "math/bits.deBruijn64tab"], apart := false, laid := [("math/bits.deBruijn32tab", laid_math_bits_deBruijn32tab), ("math/bits.deBruijn64tab", laid_math_bits_deBruijn64tab), ("internal/strconv.uint64pow10", laid_internal_strconv_uint64pow10), ("unicode/utf8.acceptRanges", laid_unicode_utf8_acceptRanges), ("unicode/utf8.first", laid_unicode_utf8_first)] }
def FnExactKeeperRiseSaid : Prop := fnExactKeeperRiseRow.holds Tryz.pinned (OpenSpec.ofChange fnExactKeeperRiseSpec)

/-- ITS FALSE NEIGHBOUR: 'it returns false'. Refute it at one input. -/
def fnExactKeeperRiseWrong : ChangeSpec := { name := "fnExactKeeperRise", fn := fun _ => fun
  | [d] => { results := [.lit (.bool false)], args := [d] }
  | _ => none }
def FnExactKeeperRiseWrongFalsely : Prop := fnExactKeeperRiseRow.holds Tryz.pinned (OpenSpec.ofChange fnExactKeeperRiseWrong)

/-- 'laws.FnExactKeeperForce': WHATEVER THE INPUT: true; the input reads as it did. -/
def fnExactKeeperForceSpec : ChangeSpec := { name := "fnExactKeeperForce", fn := fun _ => fun
  | [d] => { results := [.lit (.bool true)], args := [d] }
  | _ => none }
def fnExactKeeperForceRow : OpenClaim := { program := "ytmabaopgkimfmaagreatdoor", sum := "3a99fe3440f1573b104ff89312bb315a73baef0c6e0842c90f1f1ed73b3f92ca", func := "loop.example/bargeman/laws.FnExactKeeperForce", spec := "fnExactKeeperForce", inPlace := ["internal/bytealg.IndexByteString", "internal/bytealg.IndexString", "internal/bytealg.CountString"], recurses := true, named := ["internal/bytealg.MaxLen", "unicode/utf8.first", "unicode/utf8.acceptRanges", "internal/strconv.uint64pow10", "math/bits.deBruijn32tab", "math/bits.deBruijn64tab"], apart := false, laid := [("math/bits.deBruijn32tab", laid_math_bits_deBruijn32tab), ("math/bits.deBruijn64tab", laid_math_bits_deBruijn64tab), ("internal/strconv.uint64pow10", laid_internal_strconv_uint64pow10), ("unicode/utf8.acceptRanges", laid_unicode_utf8_acceptRanges), ("unicode/utf8.first", laid_unicode_utf8_first)] }
def FnExactKeeperForceSaid : Prop := fnExactKeeperForceRow.holds Tryz.pinned (OpenSpec.ofChange fnExactKeeperForceSpec)

/-- ITS FALSE NEIGHBOUR: 'it returns false'. Refute it at one input. -/
def fnExactKeeperForceWrong : ChangeSpec := { name := "fnExactKeeperForce", fn := fun _ => fun
  | [d] => { results := [.lit (.bool false)], args := [d] }
  | _ => none }
def FnExactKeeperForceWrongFalsely : Prop := fnExactKeeperForceRow.holds Tryz.pinned (OpenSpec.ofChange fnExactKeeperForceWrong)

/-- 'laws.FnExactKeeperHas': WHATEVER THE INPUT: true; the input reads as it did. -/
def fnExactKeeperHasSpec : ChangeSpec := { name := "fnExactKeeperHas", fn := fun _ => fun
  | [d] => { results := [.lit (.bool true)], args := [d] }
  | _ => none }
def fnExactKeeperHasRow : OpenClaim := { program := "ytmabaopgkimfmaagreatdoor", sum := "3a99fe3440f1573b104ff89312bb315a73baef0c6e0842c90f1f1ed73b3f92ca", func := "loop.example/bargeman/laws.FnExactKeeperHas", spec := "fnExactKeeperHas", inPlace := ["internal/bytealg.IndexByteString", "internal/bytealg.IndexString", "internal/bytealg.CountString"], recurses := true, named := ["internal/bytealg.MaxLen", "unicode/utf8.first", "unicode/utf8.acceptRanges", "internal/strconv.uint64pow10", "math/bits.deBruijn32tab", "math/bits.deBruijn64tab"], apart := false, laid := [("math/bits.deBruijn32tab", laid_math_bits_deBruijn32tab), ("math/bits.deBruijn64tab", laid_math_bits_deBruijn64tab), ("internal/strconv.uint64pow10", laid_internal_strconv_uint64pow10), ("unicode/utf8.acceptRanges", laid_unicode_utf8_acceptRanges), ("unicode/utf8.first", laid_unicode_utf8_first)] }
def FnExactKeeperHasSaid : Prop := fnExactKeeperHasRow.holds Tryz.pinned (OpenSpec.ofChange fnExactKeeperHasSpec)

/-- ITS FALSE NEIGHBOUR: 'it returns false'. Refute it at one input. -/
def fnExactKeeperHasWrong : ChangeSpec := { name := "fnExactKeeperHas", fn := fun _ => fun
  | [d] => { results := [.lit (.bool false)], args := [d] }
  | _ => none }
def FnExactKeeperHasWrongFalsely : Prop := fnExactKeeperHasRow.holds Tryz.pinned (OpenSpec.ofChange fnExactKeeperHasWrong)

/-- 'laws.FnExactKeeperPack': WHATEVER THE INPUT: true; the input reads as it did. -/
def fnExactKeeperPackSpec : ChangeSpec := { name := "fnExactKeeperPack", fn := fun _ => fun
  | [d] => { results := [.lit (.bool true)], args := [d] }
  | _ => none }
def fnExactKeeperPackRow : OpenClaim := { program := "ytmabaopgkimfmaagreatdoor", sum := "3a99fe3440f1573b104ff89312bb315a73baef0c6e0842c90f1f1ed73b3f92ca", func := "loop.example/bargeman/laws.FnExactKeeperPack", spec := "fnExactKeeperPack", inPlace := ["internal/bytealg.IndexByteString", "internal/bytealg.IndexString", "internal/bytealg.CountString"], recurses := true, named := ["internal/bytealg.MaxLen", "unicode/utf8.first", "unicode/utf8.acceptRanges", "internal/strconv.uint64pow10", "math/bits.deBruijn32tab", "math/bits.deBruijn64tab"], apart := false, laid := [("math/bits.deBruijn32tab", laid_math_bits_deBruijn32tab), ("math/bits.deBruijn64tab", laid_math_bits_deBruijn64tab), ("internal/strconv.uint64pow10", laid_internal_strconv_uint64pow10), ("unicode/utf8.acceptRanges", laid_unicode_utf8_acceptRanges), ("unicode/utf8.first", laid_unicode_utf8_first)] }
def FnExactKeeperPackSaid : Prop := fnExactKeeperPackRow.holds Tryz.pinned (OpenSpec.ofChange fnExactKeeperPackSpec)

/-- ITS FALSE NEIGHBOUR: 'it returns false'. Refute it at one input. -/
def fnExactKeeperPackWrong : ChangeSpec := { name := "fnExactKeeperPack", fn := fun _ => fun
  | [d] => { results := [.lit (.bool false)], args := [d] }
  | _ => none }
def FnExactKeeperPackWrongFalsely : Prop := fnExactKeeperPackRow.holds Tryz.pinned (OpenSpec.ofChange fnExactKeeperPackWrong)

/-- 'laws.FnExactKeeperTime': WHATEVER THE INPUT: true; the input reads as it did. -/
def fnExactKeeperTimeSpec : ChangeSpec := { name := "fnExactKeeperTime", fn := fun _ => fun
  | [d] => { results := [.lit (.bool true)], args := [d] }
  | _ => none }
def fnExactKeeperTimeRow : OpenClaim := { program := "ytmabaopgkimfmaagreatdoor", sum := "3a99fe3440f1573b104ff89312bb315a73baef0c6e0842c90f1f1ed73b3f92ca", func := "loop.example/bargeman/laws.FnExactKeeperTime", spec := "fnExactKeeperTime", inPlace := ["internal/bytealg.IndexByteString", "internal/bytealg.IndexString", "internal/bytealg.CountString"], recurses := true, named := ["internal/bytealg.MaxLen", "unicode/utf8.first", "unicode/utf8.acceptRanges", "internal/strconv.uint64pow10", "math/bits.deBruijn32tab", "math/bits.deBruijn64tab"], apart := false, laid := [("math/bits.deBruijn32tab", laid_math_bits_deBruijn32tab), ("math/bits.deBruijn64tab", laid_math_bits_deBruijn64tab), ("internal/strconv.uint64pow10", laid_internal_strconv_uint64pow10), ("unicode/utf8.acceptRanges", laid_unicode_utf8_acceptRanges), ("unicode/utf8.first", laid_unicode_utf8_first)] }
def FnExactKeeperTimeSaid : Prop := fnExactKeeperTimeRow.holds Tryz.pinned (OpenSpec.ofChange fnExactKeeperTimeSpec)

/-- ITS FALSE NEIGHBOUR: 'it returns false'. Refute it at one input. -/
def fnExactKeeperTimeWrong : ChangeSpec := { name := "fnExactKeeperTime", fn := fun _ => fun
  | [d] => { results := [.lit (.bool false)], args := [d] }
  | _ => none }
def FnExactKeeperTimeWrongFalsely : Prop := fnExactKeeperTimeRow.holds Tryz.pinned (OpenSpec.ofChange fnExactKeeperTimeWrong)

/-- 'laws.FnExactKeeperOwn': WHATEVER THE INPUT: true; the input reads as it did. -/
def fnExactKeeperOwnSpec : ChangeSpec := { name := "fnExactKeeperOwn", fn := fun _ => fun
  | [d1, d2, d3, d4] => { results := [.lit (.bool true)], args := [d1, d2, d3, d4] }
  | _ => none }
def fnExactKeeperOwnRow : OpenClaim := { program := "ytmabaopgkimfmaagreatdoor", sum := "3a99fe3440f1573b104ff89312bb315a73baef0c6e0842c90f1f1ed73b3f92ca", func := "loop.example/bargeman/laws.FnExactKeeperOwn", spec := "fnExactKeeperOwn", inPlace := ["internal/bytealg.IndexByteString", "internal/bytealg.IndexString", "internal/bytealg.CountString"], recurses := true, named := ["internal/bytealg.MaxLen", "unicode/utf8.first", "unicode/utf8.acceptRanges", "internal/strconv.uint64pow10", "math/bits.deBruijn32tab", "math/bits.deBruijn64tab"], apart := false, laid := [("math/bits.deBruijn32tab", laid_math_bits_deBruijn32tab), ("math/bits.deBruijn64tab", laid_math_bits_deBruijn64tab), ("internal/strconv.uint64pow10", laid_internal_strconv_uint64pow10), ("unicode/utf8.acceptRanges", laid_unicode_utf8_acceptRanges), ("unicode/utf8.first", laid_unicode_utf8_first)] }
def FnExactKeeperOwnSaid : Prop := fnExactKeeperOwnRow.holds Tryz.pinned (OpenSpec.ofChange fnExactKeeperOwnSpec)

/-- ITS FALSE NEIGHBOUR: 'it returns false'. Refute it at one input. -/
def fnExactKeeperOwnWrong : ChangeSpec := { name := "fnExactKeeperOwn", fn := fun _ => fun
  | [d1, d2, d3, d4] => { results := [.lit (.bool false)], args := [d1, d2, d3, d4] }
  | _ => none }
def FnExactKeeperOwnWrongFalsely : Prop := fnExactKeeperOwnRow.holds Tryz.pinned (OpenSpec.ofChange fnExactKeeperOwnWrong)

/-- 'laws.FnExactKeeperEat': WHATEVER THE INPUT: true; the input reads as it did. -/
def fnExactKeeperEatSpec : ChangeSpec := { name := "fnExactKeeperEat", fn := fun _ => fun
  | [d1, d2, d3] => { results := [.lit (.bool true)], args := [d1, d2, d3] }
  | _ => none }
def fnExactKeeperEatRow : OpenClaim := { program := "ytmabaopgkimfmaagreatdoor", sum := "3a99fe3440f1573b104ff89312bb315a73baef0c6e0842c90f1f1ed73b3f92ca", func := "loop.example/bargeman/laws.FnExactKeeperEat", spec := "fnExactKeeperEat", inPlace := ["internal/bytealg.IndexByteString", "internal/bytealg.IndexString", "internal/bytealg.CountString"], recurses := true, named := ["internal/bytealg.MaxLen", "unicode/utf8.first", "unicode/utf8.acceptRanges", "internal/strconv.uint64pow10", "math/bits.deBruijn32tab", "math/bits.deBruijn64tab"], apart := false, laid := [("math/bits.deBruijn32tab", laid_math_bits_deBruijn32tab), ("math/bits.deBruijn64tab", laid_math_bits_deBruijn64tab), ("internal/strconv.uint64pow10", laid_internal_strconv_uint64pow10), ("unicode/utf8.acceptRanges", laid_unicode_utf8_acceptRanges), ("unicode/utf8.first", laid_unicode_utf8_first)] }
def FnExactKeeperEatSaid : Prop := fnExactKeeperEatRow.holds Tryz.pinned (OpenSpec.ofChange fnExactKeeperEatSpec)

/-- ITS FALSE NEIGHBOUR: 'it returns false'. Refute it at one input. -/
def fnExactKeeperEatWrong : ChangeSpec := { name := "fnExactKeeperEat", fn := fun _ => fun
  | [d1, d2, d3] => { results := [.lit (.bool false)], args := [d1, d2, d3] }
  | _ => none }
def FnExactKeeperEatWrongFalsely : Prop := fnExactKeeperEatRow.holds Tryz.pinned (OpenSpec.ofChange fnExactKeeperEatWrong)

/-- 'laws.FnExactKeeperHear': WHATEVER THE INPUT: true; the input reads as it did. -/
def fnExactKeeperHearSpec : ChangeSpec := { name := "fnExactKeeperHear", fn := fun _ => fun
  | [d1, d2] => { results := [.lit (.bool true)], args := [d1, d2] }
  | _ => none }
def fnExactKeeperHearRow : OpenClaim := { program := "ytmabaopgkimfmaagreatdoor", sum := "3a99fe3440f1573b104ff89312bb315a73baef0c6e0842c90f1f1ed73b3f92ca", func := "loop.example/bargeman/laws.FnExactKeeperHear", spec := "fnExactKeeperHear", inPlace := ["internal/bytealg.IndexByteString", "internal/bytealg.IndexString", "internal/bytealg.CountString"], recurses := true, named := ["internal/bytealg.MaxLen", "unicode/utf8.first", "unicode/utf8.acceptRanges", "internal/strconv.uint64pow10", "math/bits.deBruijn32tab", "math/bits.deBruijn64tab"], apart := false, laid := [("math/bits.deBruijn32tab", laid_math_bits_deBruijn32tab), ("math/bits.deBruijn64tab", laid_math_bits_deBruijn64tab), ("internal/strconv.uint64pow10", laid_internal_strconv_uint64pow10), ("unicode/utf8.acceptRanges", laid_unicode_utf8_acceptRanges), ("unicode/utf8.first", laid_unicode_utf8_first)] }
def FnExactKeeperHearSaid : Prop := fnExactKeeperHearRow.holds Tryz.pinned (OpenSpec.ofChange fnExactKeeperHearSpec)

/-- ITS FALSE NEIGHBOUR: 'it returns false'. Refute it at one input. -/
def fnExactKeeperHearWrong : ChangeSpec := { name := "fnExactKeeperHear", fn := fun _ => fun
  | [d1, d2] => { results := [.lit (.bool false)], args := [d1, d2] }
  | _ => none }
def FnExactKeeperHearWrongFalsely : Prop := fnExactKeeperHearRow.holds Tryz.pinned (OpenSpec.ofChange fnExactKeeperHearWrong)

/-- 'laws.FnKeeperCut': WHATEVER THE INPUT: true; the input reads as it did. -/
def fnKeeperCutSpec : ChangeSpec := { name := "fnKeeperCut", fn := fun _ => fun
  | [d1, d2] => { results := [.lit (.bool true)], args := [d1, d2] }
  | _ => none }
def fnKeeperCutRow : OpenClaim := { program := "ytmabaopgkimfmaagreatdoor", sum := "3a99fe3440f1573b104ff89312bb315a73baef0c6e0842c90f1f1ed73b3f92ca", func := "loop.example/bargeman/laws.FnKeeperCut", spec := "fnKeeperCut", inPlace := ["internal/bytealg.IndexByteString", "internal/bytealg.IndexString", "internal/bytealg.CountString"], recurses := true, named := ["internal/bytealg.MaxLen", "unicode/utf8.first", "unicode/utf8.acceptRanges", "internal/strconv.uint64pow10", "math/bits.deBruijn32tab", "math/bits.deBruijn64tab"], apart := false, laid := [("math/bits.deBruijn32tab", laid_math_bits_deBruijn32tab), ("math/bits.deBruijn64tab", laid_math_bits_deBruijn64tab), ("internal/strconv.uint64pow10", laid_internal_strconv_uint64pow10), ("unicode/utf8.acceptRanges", laid_unicode_utf8_acceptRanges), ("unicode/utf8.first", laid_unicode_utf8_first)] }
def FnKeeperCutSaid : Prop := fnKeeperCutRow.holds Tryz.pinned (OpenSpec.ofChange fnKeeperCutSpec)

/-- ITS FALSE NEIGHBOUR: 'it returns false'. Refute it at one input. -/
def fnKeeperCutWrong : ChangeSpec := { name := "fnKeeperCut", fn := fun _ => fun
  | [d1, d2] => { results := [.lit (.bool false)], args := [d1, d2] }
  | _ => none }
def FnKeeperCutWrongFalsely : Prop := fnKeeperCutRow.holds Tryz.pinned (OpenSpec.ofChange fnKeeperCutWrong)

/-- 'laws.FnKeeperTime': WHATEVER THE INPUT: true; the input reads as it did. -/
def fnKeeperTimeSpec : ChangeSpec := { name := "fnKeeperTime", fn := fun _ => fun
  | [d] => { results := [.lit (.bool true)], args := [d] }
  | _ => none }
def fnKeeperTimeRow : OpenClaim := { program := "ytmabaopgkimfmaagreatdoor", sum := "3a99fe3440f1573b104ff89312bb315a73baef0c6e0842c90f1f1ed73b3f92ca", func := "loop.example/bargeman/laws.FnKeeperTime", spec := "fnKeeperTime", inPlace := ["internal/bytealg.IndexByteString", "internal/bytealg.IndexString", "internal/bytealg.CountString"], recurses := true, named := ["internal/bytealg.MaxLen", "unicode/utf8.first", "unicode/utf8.acceptRanges", "internal/strconv.uint64pow10", "math/bits.deBruijn32tab", "math/bits.deBruijn64tab"], apart := false, laid := [("math/bits.deBruijn32tab", laid_math_bits_deBruijn32tab), ("math/bits.deBruijn64tab", laid_math_bits_deBruijn64tab), ("internal/strconv.uint64pow10", laid_internal_strconv_uint64pow10), ("unicode/utf8.acceptRanges", laid_unicode_utf8_acceptRanges), ("unicode/utf8.first", laid_unicode_utf8_first)] }
def FnKeeperTimeSaid : Prop := fnKeeperTimeRow.holds Tryz.pinned (OpenSpec.ofChange fnKeeperTimeSpec)

/-- ITS FALSE NEIGHBOUR: 'it returns false'. Refute it at one input. -/
def fnKeeperTimeWrong : ChangeSpec := { name := "fnKeeperTime", fn := fun _ => fun
  | [d] => { results := [.lit (.bool false)], args := [d] }
  | _ => none }
def FnKeeperTimeWrongFalsely : Prop := fnKeeperTimeRow.holds Tryz.pinned (OpenSpec.ofChange fnKeeperTimeWrong)

/-- 'laws.FnKeeperMix': WHATEVER THE INPUT: true; the input reads as it did. -/
def fnKeeperMixSpec : ChangeSpec := { name := "fnKeeperMix", fn := fun _ => fun
  | [d] => { results := [.lit (.bool true)], args := [d] }
  | _ => none }
def fnKeeperMixRow : OpenClaim := { program := "ytmabaopgkimfmaagreatdoor", sum := "3a99fe3440f1573b104ff89312bb315a73baef0c6e0842c90f1f1ed73b3f92ca", func := "loop.example/bargeman/laws.FnKeeperMix", spec := "fnKeeperMix", inPlace := ["internal/bytealg.IndexByteString", "internal/bytealg.IndexString", "internal/bytealg.CountString"], recurses := true, named := ["internal/bytealg.MaxLen", "unicode/utf8.first", "unicode/utf8.acceptRanges", "internal/strconv.uint64pow10", "math/bits.deBruijn32tab", "math/bits.deBruijn64tab"], apart := false, laid := [("math/bits.deBruijn32tab", laid_math_bits_deBruijn32tab), ("math/bits.deBruijn64tab", laid_math_bits_deBruijn64tab), ("internal/strconv.uint64pow10", laid_internal_strconv_uint64pow10), ("unicode/utf8.acceptRanges", laid_unicode_utf8_acceptRanges), ("unicode/utf8.first", laid_unicode_utf8_first)] }
def FnKeeperMixSaid : Prop := fnKeeperMixRow.holds Tryz.pinned (OpenSpec.ofChange fnKeeperMixSpec)

/-- ITS FALSE NEIGHBOUR: 'it returns false'. Refute it at one input. -/
def fnKeeperMixWrong : ChangeSpec := { name := "fnKeeperMix", fn := fun _ => fun
  | [d] => { results := [.lit (.bool false)], args := [d] }
  | _ => none }
def FnKeeperMixWrongFalsely : Prop := fnKeeperMixRow.holds Tryz.pinned (OpenSpec.ofChange fnKeeperMixWrong)

/- THE SECOND FORM. 'bulk': how many values and letters a reading holds, each counted each time it is reached (what is shared counts as often as it is met; a slice's spare places count too). A statement '..UptoSaid' is the law's where the arguments, and the package variables that the reading takes, are together of bulk at most 1048576: NARROWER than '..Said'. Prove '..Said' where nothing that the law and all that it calls make is longer than what came in: it says more and counts as full. Else prove '..UptoSaid'. A law counts once. -/
mutual
def uptoBulk {H : Type} : DataW H → Nat
  | .lit (.string bytes) => bytes.length + 1
  | .lit _ => 1
  | .nil => 1
  | .ptr d => uptoBulk d + 1
  | .slice elems spare => uptoBulkAll elems + uptoBulkAll spare + 1
  | .agg parts => uptoBulkAll parts + 1
  | .iface _ d => uptoBulk d + 1
  | .map entries => uptoBulkEntries entries + 1
  | .held _ => 1
def uptoBulkAll {H : Type} : List (DataW H) → Nat
  | [] => 0
  | d :: r => uptoBulk d + uptoBulkAll r
def uptoBulkEntries {H : Type} : List (Lit × DataW H) → Nat
  | [] => 0
  | x :: r => uptoBulkEntry x + uptoBulkEntries r
def uptoBulkEntry {H : Type} : Lit × DataW H → Nat
  | (.string bytes, d) => bytes.length + uptoBulk d + 1
  | (_, d) => uptoBulk d + 1
 end
def uptoSmall : (H : Type) → List (DataW H) → Bool := fun _ ds => decide (uptoBulkAll ds ≤ 1048576)
def OpenSpec.upto (s : _root_.Go.ChangeSpec) : _root_.Go.OpenSpec := { _root_.Go.OpenSpec.ofChange s with cond := some uptoSmall }

/-- 'laws.FnExactKeeperFall', WHERE WHAT IT READS IS OF BULK AT MOST 1048576: true; the input reads as it did. -/
def fnExactKeeperFallUptoRow : OpenClaim := { program := "ytmabaopgkimfmaagreatdoor", sum := "3a99fe3440f1573b104ff89312bb315a73baef0c6e0842c90f1f1ed73b3f92ca", func := "loop.example/bargeman/laws.FnExactKeeperFall", spec := "fnExactKeeperFall", inPlace := ["internal/bytealg.IndexByteString", "internal/bytealg.IndexString", "internal/bytealg.CountString"], recurses := true, named := ["internal/bytealg.MaxLen", "unicode/utf8.first", "unicode/utf8.acceptRanges", "internal/strconv.uint64pow10", "math/bits.deBruijn32tab", "math/bits.deBruijn64tab"], apart := false, laid := [("math/bits.deBruijn32tab", laid_math_bits_deBruijn32tab), ("math/bits.deBruijn64tab", laid_math_bits_deBruijn64tab), ("internal/strconv.uint64pow10", laid_internal_strconv_uint64pow10), ("unicode/utf8.acceptRanges", laid_unicode_utf8_acceptRanges), ("unicode/utf8.first", laid_unicode_utf8_first)], narrowed := true }
def FnExactKeeperFallUptoSaid : Prop := fnExactKeeperFallUptoRow.holds Tryz.pinned (OpenSpec.upto fnExactKeeperFallSpec)

/-- 'laws.FnExactKeeperRise', WHERE WHAT IT READS IS OF BULK AT MOST 1048576: true; the input reads as it did. -/
def fnExactKeeperRiseUptoRow : OpenClaim := { program := "ytmabaopgkimfmaagreatdoor", sum := "3a99fe3440f1573b104ff89312bb315a73baef0c6e0842c90f1f1ed73b3f92ca", func := "loop.example/bargeman/laws.FnExactKeeperRise", spec := "fnExactKeeperRise", inPlace := ["internal/bytealg.IndexByteString", "internal/bytealg.IndexString", "internal/bytealg.CountString"], recurses := true, named := ["internal/bytealg.MaxLen", "unicode/utf8.first", "unicode/utf8.acceptRanges", "internal/strconv.uint64pow10", "math/bits.deBruijn32tab", "math/bits.deBruijn64tab"], apart := false, laid := [("math/bits.deBruijn32tab", laid_math_bits_deBruijn32tab), ("math/bits.deBruijn64tab", laid_math_bits_deBruijn64tab), ("internal/strconv.uint64pow10", laid_internal_strconv_uint64pow10), ("unicode/utf8.acceptRanges", laid_unicode_utf8_acceptRanges), ("unicode/utf8.first", laid_unicode_utf8_first)], narrowed := true }
def FnExactKeeperRiseUptoSaid : Prop := fnExactKeeperRiseUptoRow.holds Tryz.pinned (OpenSpec.upto fnExactKeeperRiseSpec)

/-- 'laws.FnExactKeeperForce', WHERE WHAT IT READS IS OF BULK AT MOST 1048576: true; the input reads as it did. -/
def fnExactKeeperForceUptoRow : OpenClaim := { program := "ytmabaopgkimfmaagreatdoor", sum := "3a99fe3440f1573b104ff89312bb315a73baef0c6e0842c90f1f1ed73b3f92ca", func := "loop.example/bargeman/laws.FnExactKeeperForce", spec := "fnExactKeeperForce", inPlace := ["internal/bytealg.IndexByteString", "internal/bytealg.IndexString", "internal/bytealg.CountString"], recurses := true, named := ["internal/bytealg.MaxLen", "unicode/utf8.first", "unicode/utf8.acceptRanges", "internal/strconv.uint64pow10", "math/bits.deBruijn32tab", "math/bits.deBruijn64tab"], apart := false, laid := [("math/bits.deBruijn32tab", laid_math_bits_deBruijn32tab), ("math/bits.deBruijn64tab", laid_math_bits_deBruijn64tab), ("internal/strconv.uint64pow10", laid_internal_strconv_uint64pow10), ("unicode/utf8.acceptRanges", laid_unicode_utf8_acceptRanges), ("unicode/utf8.first", laid_unicode_utf8_first)], narrowed := true }
def FnExactKeeperForceUptoSaid : Prop := fnExactKeeperForceUptoRow.holds Tryz.pinned (OpenSpec.upto fnExactKeeperForceSpec)

/-- 'laws.FnExactKeeperHas', WHERE WHAT IT READS IS OF BULK AT MOST 1048576: true; the input reads as it did. -/
def fnExactKeeperHasUptoRow : OpenClaim := { program := "ytmabaopgkimfmaagreatdoor", sum := "3a99fe3440f1573b104ff89312bb315a73baef0c6e0842c90f1f1ed73b3f92ca", func := "loop.example/bargeman/laws.FnExactKeeperHas", spec := "fnExactKeeperHas", inPlace := ["internal/bytealg.IndexByteString", "internal/bytealg.IndexString", "internal/bytealg.CountString"], recurses := true, named := ["internal/bytealg.MaxLen", "unicode/utf8.first", "unicode/utf8.acceptRanges", "internal/strconv.uint64pow10", "math/bits.deBruijn32tab", "math/bits.deBruijn64tab"], apart := false, laid := [("math/bits.deBruijn32tab", laid_math_bits_deBruijn32tab), ("math/bits.deBruijn64tab", laid_math_bits_deBruijn64tab), ("internal/strconv.uint64pow10", laid_internal_strconv_uint64pow10), ("unicode/utf8.acceptRanges", laid_unicode_utf8_acceptRanges), ("unicode/utf8.first", laid_unicode_utf8_first)], narrowed := true }
def FnExactKeeperHasUptoSaid : Prop := fnExactKeeperHasUptoRow.holds Tryz.pinned (OpenSpec.upto fnExactKeeperHasSpec)

/-- 'laws.FnExactKeeperPack', WHERE WHAT IT READS IS OF BULK AT MOST 1048576: true; the input reads as it did. -/
def fnExactKeeperPackUptoRow : OpenClaim := { program := "ytmabaopgkimfmaagreatdoor", sum := "3a99fe3440f1573b104ff89312bb315a73baef0c6e0842c90f1f1ed73b3f92ca", func := "loop.example/bargeman/laws.FnExactKeeperPack", spec := "fnExactKeeperPack", inPlace := ["internal/bytealg.IndexByteString", "internal/bytealg.IndexString", "internal/bytealg.CountString"], recurses := true, named := ["internal/bytealg.MaxLen", "unicode/utf8.first", "unicode/utf8.acceptRanges", "internal/strconv.uint64pow10", "math/bits.deBruijn32tab", "math/bits.deBruijn64tab"], apart := false, laid := [("math/bits.deBruijn32tab", laid_math_bits_deBruijn32tab), ("math/bits.deBruijn64tab", laid_math_bits_deBruijn64tab), ("internal/strconv.uint64pow10", laid_internal_strconv_uint64pow10), ("unicode/utf8.acceptRanges", laid_unicode_utf8_acceptRanges), ("unicode/utf8.first", laid_unicode_utf8_first)], narrowed := true }
def FnExactKeeperPackUptoSaid : Prop := fnExactKeeperPackUptoRow.holds Tryz.pinned (OpenSpec.upto fnExactKeeperPackSpec)

/-- 'laws.FnExactKeeperTime', WHERE WHAT IT READS IS OF BULK AT MOST 1048576: true; the input reads as it did. -/
def fnExactKeeperTimeUptoRow : OpenClaim := { program := "ytmabaopgkimfmaagreatdoor", sum := "3a99fe3440f1573b104ff89312bb315a73baef0c6e0842c90f1f1ed73b3f92ca", func := "loop.example/bargeman/laws.FnExactKeeperTime", spec := "fnExactKeeperTime", inPlace := ["internal/bytealg.IndexByteString", "internal/bytealg.IndexString", "internal/bytealg.CountString"], recurses := true, named := ["internal/bytealg.MaxLen", "unicode/utf8.first", "unicode/utf8.acceptRanges", "internal/strconv.uint64pow10", "math/bits.deBruijn32tab", "math/bits.deBruijn64tab"], apart := false, laid := [("math/bits.deBruijn32tab", laid_math_bits_deBruijn32tab), ("math/bits.deBruijn64tab", laid_math_bits_deBruijn64tab), ("internal/strconv.uint64pow10", laid_internal_strconv_uint64pow10), ("unicode/utf8.acceptRanges", laid_unicode_utf8_acceptRanges), ("unicode/utf8.first", laid_unicode_utf8_first)], narrowed := true }
def FnExactKeeperTimeUptoSaid : Prop := fnExactKeeperTimeUptoRow.holds Tryz.pinned (OpenSpec.upto fnExactKeeperTimeSpec)

/-- 'laws.FnExactKeeperOwn', WHERE WHAT IT READS IS OF BULK AT MOST 1048576: true; the input reads as it did. -/
def fnExactKeeperOwnUptoRow : OpenClaim := { program := "ytmabaopgkimfmaagreatdoor", sum := "3a99fe3440f1573b104ff89312bb315a73baef0c6e0842c90f1f1ed73b3f92ca", func := "loop.example/bargeman/laws.FnExactKeeperOwn", spec := "fnExactKeeperOwn", inPlace := ["internal/bytealg.IndexByteString", "internal/bytealg.IndexString", "internal/bytealg.CountString"], recurses := true, named := ["internal/bytealg.MaxLen", "unicode/utf8.first", "unicode/utf8.acceptRanges", "internal/strconv.uint64pow10", "math/bits.deBruijn32tab", "math/bits.deBruijn64tab"], apart := false, laid := [("math/bits.deBruijn32tab", laid_math_bits_deBruijn32tab), ("math/bits.deBruijn64tab", laid_math_bits_deBruijn64tab), ("internal/strconv.uint64pow10", laid_internal_strconv_uint64pow10), ("unicode/utf8.acceptRanges", laid_unicode_utf8_acceptRanges), ("unicode/utf8.first", laid_unicode_utf8_first)], narrowed := true }
def FnExactKeeperOwnUptoSaid : Prop := fnExactKeeperOwnUptoRow.holds Tryz.pinned (OpenSpec.upto fnExactKeeperOwnSpec)

/-- 'laws.FnExactKeeperEat', WHERE WHAT IT READS IS OF BULK AT MOST 1048576: true; the input reads as it did. -/
def fnExactKeeperEatUptoRow : OpenClaim := { program := "ytmabaopgkimfmaagreatdoor", sum := "3a99fe3440f1573b104ff89312bb315a73baef0c6e0842c90f1f1ed73b3f92ca", func := "loop.example/bargeman/laws.FnExactKeeperEat", spec := "fnExactKeeperEat", inPlace := ["internal/bytealg.IndexByteString", "internal/bytealg.IndexString", "internal/bytealg.CountString"], recurses := true, named := ["internal/bytealg.MaxLen", "unicode/utf8.first", "unicode/utf8.acceptRanges", "internal/strconv.uint64pow10", "math/bits.deBruijn32tab", "math/bits.deBruijn64tab"], apart := false, laid := [("math/bits.deBruijn32tab", laid_math_bits_deBruijn32tab), ("math/bits.deBruijn64tab", laid_math_bits_deBruijn64tab), ("internal/strconv.uint64pow10", laid_internal_strconv_uint64pow10), ("unicode/utf8.acceptRanges", laid_unicode_utf8_acceptRanges), ("unicode/utf8.first", laid_unicode_utf8_first)], narrowed := true }
def FnExactKeeperEatUptoSaid : Prop := fnExactKeeperEatUptoRow.holds Tryz.pinned (OpenSpec.upto fnExactKeeperEatSpec)

/-- 'laws.FnExactKeeperHear', WHERE WHAT IT READS IS OF BULK AT MOST 1048576: true; the input reads as it did. -/
def fnExactKeeperHearUptoRow : OpenClaim := { program := "ytmabaopgkimfmaagreatdoor", sum := "3a99fe3440f1573b104ff89312bb315a73baef0c6e0842c90f1f1ed73b3f92ca", func := "loop.example/bargeman/laws.FnExactKeeperHear", spec := "fnExactKeeperHear", inPlace := ["internal/bytealg.IndexByteString", "internal/bytealg.IndexString", "internal/bytealg.CountString"], recurses := true, named := ["internal/bytealg.MaxLen", "unicode/utf8.first", "unicode/utf8.acceptRanges", "internal/strconv.uint64pow10", "math/bits.deBruijn32tab", "math/bits.deBruijn64tab"], apart := false, laid := [("math/bits.deBruijn32tab", laid_math_bits_deBruijn32tab), ("math/bits.deBruijn64tab", laid_math_bits_deBruijn64tab), ("internal/strconv.uint64pow10", laid_internal_strconv_uint64pow10), ("unicode/utf8.acceptRanges", laid_unicode_utf8_acceptRanges), ("unicode/utf8.first", laid_unicode_utf8_first)], narrowed := true }
def FnExactKeeperHearUptoSaid : Prop := fnExactKeeperHearUptoRow.holds Tryz.pinned (OpenSpec.upto fnExactKeeperHearSpec)

/-- 'laws.FnKeeperCut', WHERE WHAT IT READS IS OF BULK AT MOST 1048576: true; the input reads as it did. -/
def fnKeeperCutUptoRow : OpenClaim := { program := "ytmabaopgkimfmaagreatdoor", sum := "3a99fe3440f1573b104ff89312bb315a73baef0c6e0842c90f1f1ed73b3f92ca", func := "loop.example/bargeman/laws.FnKeeperCut", spec := "fnKeeperCut", inPlace := ["internal/bytealg.IndexByteString", "internal/bytealg.IndexString", "internal/bytealg.CountString"], recurses := true, named := ["internal/bytealg.MaxLen", "unicode/utf8.first", "unicode/utf8.acceptRanges", "internal/strconv.uint64pow10", "math/bits.deBruijn32tab", "math/bits.deBruijn64tab"], apart := false, laid := [("math/bits.deBruijn32tab", laid_math_bits_deBruijn32tab), ("math/bits.deBruijn64tab", laid_math_bits_deBruijn64tab), ("internal/strconv.uint64pow10", laid_internal_strconv_uint64pow10), ("unicode/utf8.acceptRanges", laid_unicode_utf8_acceptRanges), ("unicode/utf8.first", laid_unicode_utf8_first)], narrowed := true }
def FnKeeperCutUptoSaid : Prop := fnKeeperCutUptoRow.holds Tryz.pinned (OpenSpec.upto fnKeeperCutSpec)

/-- 'laws.FnKeeperTime', WHERE WHAT IT READS IS OF BULK AT MOST 1048576: true; the input reads as it did. -/
def fnKeeperTimeUptoRow : OpenClaim := { program := "ytmabaopgkimfmaagreatdoor", sum := "3a99fe3440f1573b104ff89312bb315a73baef0c6e0842c90f1f1ed73b3f92ca", func := "loop.example/bargeman/laws.FnKeeperTime", spec := "fnKeeperTime", inPlace := ["internal/bytealg.IndexByteString", "internal/bytealg.IndexString", "internal/bytealg.CountString"], recurses := true, named := ["internal/bytealg.MaxLen", "unicode/utf8.first", "unicode/utf8.acceptRanges", "internal/strconv.uint64pow10", "math/bits.deBruijn32tab", "math/bits.deBruijn64tab"], apart := false, laid := [("math/bits.deBruijn32tab", laid_math_bits_deBruijn32tab), ("math/bits.deBruijn64tab", laid_math_bits_deBruijn64tab), ("internal/strconv.uint64pow10", laid_internal_strconv_uint64pow10), ("unicode/utf8.acceptRanges", laid_unicode_utf8_acceptRanges), ("unicode/utf8.first", laid_unicode_utf8_first)], narrowed := true }
def FnKeeperTimeUptoSaid : Prop := fnKeeperTimeUptoRow.holds Tryz.pinned (OpenSpec.upto fnKeeperTimeSpec)

/-- 'laws.FnKeeperMix', WHERE WHAT IT READS IS OF BULK AT MOST 1048576: true; the input reads as it did. -/
def fnKeeperMixUptoRow : OpenClaim := { program := "ytmabaopgkimfmaagreatdoor", sum := "3a99fe3440f1573b104ff89312bb315a73baef0c6e0842c90f1f1ed73b3f92ca", func := "loop.example/bargeman/laws.FnKeeperMix", spec := "fnKeeperMix", inPlace := ["internal/bytealg.IndexByteString", "internal/bytealg.IndexString", "internal/bytealg.CountString"], recurses := true, named := ["internal/bytealg.MaxLen", "unicode/utf8.first", "unicode/utf8.acceptRanges", "internal/strconv.uint64pow10", "math/bits.deBruijn32tab", "math/bits.deBruijn64tab"], apart := false, laid := [("math/bits.deBruijn32tab", laid_math_bits_deBruijn32tab), ("math/bits.deBruijn64tab", laid_math_bits_deBruijn64tab), ("internal/strconv.uint64pow10", laid_internal_strconv_uint64pow10), ("unicode/utf8.acceptRanges", laid_unicode_utf8_acceptRanges), ("unicode/utf8.first", laid_unicode_utf8_first)], narrowed := true }
def FnKeeperMixUptoSaid : Prop := fnKeeperMixUptoRow.holds Tryz.pinned (OpenSpec.upto fnKeeperMixSpec)

end Rows
end Go.Proofs.YtmabaopgkimfmaaGreatDoor
