/-
  NARROWER THAN 'FOR EVERY INPUT', by the rows' own cells (each row's printed sentence says how): FnKeeperHas: laid · FnKeeperFall: laid · FnKeeperRise: laid · FnKeeperForce: laid · FnKeeperPack: laid · FnKeeperNum: laid · FnKeeperCut: laid · FnKeeperOwn: laid · FnKeeperTime: laid · FnKeeperMix: laid · FnKeeperEat: laid.
  DERIVED. THE GIVEN ROWS OF THIS SEAT. 11 by the template 'for every input the law returns true; each argument reads behind the call as it read before'; 0 by the template 'total and deterministic' (their statements: YthbgjfegalcenaaGreatDoorTotals.lean).
  GIVEN WITH THE SEED: the statements are not yours to turn. If you find one false, say at which input.
  Laid BY PROGRAM, IN A SANDBOX (cutbox-rows.mjs): the forced cells as the released guide's own fill.sh prints them over the translation 3f3b845f45e431e4… (all of the seat's roots in one cut). By AI agents, Wed Nov 11 2026. No macro, syntax, notation, axiom, sorry.
-/
import Derived.Test.YthbgjfegalcenaaGreatDoorChecked
import GoSem.PinnedTables
import GoSem.Claim
import GoSem.ClaimJoined
import GoSem.ClaimMapViews
import Derived.JoinedTies
import Derived.KernelRfl
namespace Go.Proofs.YthbgjfegalcenaaGreatDoor
/- THE CELL 'sum', in the pinned program and in every row, IS THE sha256 OF THE DUMP (.gsa) THAT YthbgjfegalcenaaGreatDoorProg.lean LOADS. Nothing in Lean hashes anything: it is a label: what it is worth is what the hold of that sum in a sandbox is worth. -/
noncomputable def Tryz.pinned : Pinned := { name := "ythbgjfegalcenaagreatdoor", sum := "3f3b845f45e431e4a7e097471fca511d48ac4641d981cd0ec95dd68fefc52862", checked := Tryz.checked }
namespace Rows
def none {H : Type} : Left H := { results := [], args := [] }

/- WHAT THE LISTED PACKAGE-LEVEL VARIABLES READ AS WHEN THE CALL BEGINS. Each datum BY PROGRAM (the guide's laid-datum.mjs) off the statement by which the dump's own 'gosem.cut.vars' lays the variable. In a bare row this is a premise. The card (YthbgjfegalcenaaGreatDoorCards.lean) ties it to the program's text. -/
def laid_math_bits_deBruijn32tab {H : Type} : DataW H := .agg [.lit (.int .u8 0), .lit (.int .u8 1), .lit (.int .u8 28), .lit (.int .u8 2), .lit (.int .u8 29), .lit (.int .u8 14), .lit (.int .u8 24), .lit (.int .u8 3), .lit (.int .u8 30), .lit (.int .u8 22), .lit (.int .u8 20), .lit (.int .u8 15), .lit (.int .u8 25), .lit (.int .u8 17), .lit (.int .u8 4), .lit (.int .u8 8), .lit (.int .u8 31), .lit (.int .u8 27), .lit (.int .u8 13), .lit (.int .u8 23), .lit (.int .u8 21), .lit (.int .u8 19), .lit (.int .u8 16), .lit (.int .u8 7), .lit (.int .u8 26), .lit (.int .u8 12), .lit (.int .u8 18), .lit (.int .u8 6), .lit (.int .u8 11), .lit (.int .u8 5), .lit (.int .u8 10), .lit (.int .u8 9)]
def laid_math_bits_deBruijn64tab {H : Type} : DataW H := .agg [.lit (.int .u8 0), .lit (.int .u8 1), .lit (.int .u8 56), .lit (.int .u8 2), .lit (.int .u8 57), .lit (.int .u8 49), .lit (.int .u8 28), .lit (.int .u8 3), .lit (.int .u8 61), .lit (.int .u8 58), .lit (.int .u8 42), .lit (.int .u8 50), .lit (.int .u8 38), .lit (.int .u8 29), .lit (.int .u8 17), .lit (.int .u8 4), .lit (.int .u8 62), .lit (.int .u8 47), .lit (.int .u8 59), .lit (.int .u8 36), .lit (.int .u8 45), .lit (.int .u8 43), .lit (.int .u8 51), .lit (.int .u8 22), .lit (.int .u8 53), .lit (.int .u8 39), .lit (.int .u8 33), .lit (.int .u8 30), .lit (.int .u8 24), .lit (.int .u8 18), .lit (.int .u8 12), .lit (.int .u8 5), .lit (.int .u8 63), .lit (.int .u8 55), .lit (.int .u8 48), .lit (.int .u8 27), .lit (.int .u8 60), .lit (.int .u8 41), .lit (.int .u8 37), .lit (.int .u8 16), .lit (.int .u8 46), .lit (.int .u8 35), .lit (.int .u8 44), .lit (.int .u8 21), .lit (.int .u8 52), .lit (.int .u8 32), .lit (.int .u8 23), .lit (.int .u8 11), .lit (.int .u8 54), .lit (.int .u8 26), .lit (.int .u8 40), .lit (.int .u8 15), .lit (.int .u8 34), .lit (.int .u8 20), .lit (.int .u8 31), .lit (.int .u8 10), .lit (.int .u8 25), .lit (.int .u8 14), .lit (.int .u8 19), .lit (.int .u8 9), .lit (.int .u8 13), .lit (.int .u8 8), .lit (.int .u8 7), .lit (.int .u8 6)]
def laid_internal_strconv_uint64pow10 {H : Type} : DataW H := .agg [.lit (.int .u64 1), .lit (.int .u64 10), .lit (.int .u64 100), .lit (.int .u64 1000), .lit (.int .u64 10000), .lit (.int .u64 100000), .lit (.int .u64 1000000), .lit (.int .u64 10000000), .lit (.int .u64 100000000), .lit (.int .u64 1000000000), .lit (.int .u64 10000000000), .lit (.int .u64 100000000000), .lit (.int .u64 1000000000000), .lit (.int .u64 10000000000000), .lit (.int .u64 100000000000000), .lit (.int .u64 1000000000000000), .lit (.int .u64 10000000000000000), .lit (.int .u64 100000000000000000), .lit (.int .u64 1000000000000000000), .lit (.int .u64 10000000000000000000)]
def laid_unicode_utf8_acceptRanges {H : Type} : DataW H := .agg [.agg [.lit (.int .u8 128), .lit (.int .u8 191)], .agg [.lit (.int .u8 160), .lit (.int .u8 191)], .agg [.lit (.int .u8 128), .lit (.int .u8 159)], .agg [.lit (.int .u8 144), .lit (.int .u8 191)], .agg [.lit (.int .u8 128), .lit (.int .u8 143)], .agg [.lit (.int .u8 0), .lit (.int .u8 0)], .agg [.lit (.int .u8 0), .lit (.int .u8 0)], .agg [.lit (.int .u8 0), .lit (.int .u8 0)], .agg [.lit (.int .u8 0), .lit (.int .u8 0)], .agg [.lit (.int .u8 0), .lit (.int .u8 0)], .agg [.lit (.int .u8 0), .lit (.int .u8 0)], .agg [.lit (.int .u8 0), .lit (.int .u8 0)], .agg [.lit (.int .u8 0), .lit (.int .u8 0)], .agg [.lit (.int .u8 0), .lit (.int .u8 0)], .agg [.lit (.int .u8 0), .lit (.int .u8 0)], .agg [.lit (.int .u8 0), .lit (.int .u8 0)]]
/-- One of Go's own tables, pinned by name: the form's constant. -/
def laid_unicode_utf8_first : DataW Unit := Go.Pinned.utf8First

/-- 'laws.FnKeeperHas': WHATEVER THE INPUT: true; the input reads as it did. -/
def fnKeeperHasSpec : ChangeSpec := { name := "fnKeeperHas", fn := fun _ => fun
  | [d] => { results := [.lit (.bool true)], args := [d] }
  | _ => none }
def fnKeeperHasRow : OpenClaim := { program := "ythbgjfegalcenaagreatdoor", sum := "3f3b845f45e431e4a7e097471fca511d48ac4641d981cd0ec95dd68fefc52862", func := "loop.example/bargeman/laws.FnKeeperHas", spec := "fnKeeperHas", inPlace := ["internal/bytealg.IndexByteString", "internal/bytealg.IndexString", "internal/bytealg.CountString"], recurses := true, named := ["internal/bytealg.MaxLen", "unicode/utf8.first", "unicode/utf8.acceptRanges", "internal/strconv.uint64pow10", "math/bits.deBruijn32tab", "math/bits.deBruijn64tab"], apart := false, laid := [("math/bits.deBruijn32tab", laid_math_bits_deBruijn32tab), ("math/bits.deBruijn64tab", laid_math_bits_deBruijn64tab), ("internal/strconv.uint64pow10", laid_internal_strconv_uint64pow10), ("unicode/utf8.acceptRanges", laid_unicode_utf8_acceptRanges), ("unicode/utf8.first", laid_unicode_utf8_first)] }
def FnKeeperHasSaid : Prop := fnKeeperHasRow.holds Tryz.pinned (OpenSpec.ofChange fnKeeperHasSpec)

/-- ITS FALSE NEIGHBOUR: 'it returns false'. Refute it at one input. -/
def fnKeeperHasWrong : ChangeSpec := { name := "fnKeeperHas", fn := fun _ => fun
  | [d] => { results := [.lit (.bool false)], args := [d] }
  | _ => none }
def FnKeeperHasWrongFalsely : Prop := fnKeeperHasRow.holds Tryz.pinned (OpenSpec.ofChange fnKeeperHasWrong)

/-- 'laws.FnKeeperFall': WHATEVER THE INPUT: true; the input reads as it did. -/
def fnKeeperFallSpec : ChangeSpec := { name := "fnKeeperFall", fn := fun _ => fun
  | [d] => { results := [.lit (.bool true)], args := [d] }
  | _ => none }
def fnKeeperFallRow : OpenClaim := { program := "ythbgjfegalcenaagreatdoor", sum := "3f3b845f45e431e4a7e097471fca511d48ac4641d981cd0ec95dd68fefc52862", func := "loop.example/bargeman/laws.FnKeeperFall", spec := "fnKeeperFall", inPlace := ["internal/bytealg.IndexByteString", "internal/bytealg.IndexString", "internal/bytealg.CountString"], recurses := true, named := ["internal/bytealg.MaxLen", "unicode/utf8.first", "unicode/utf8.acceptRanges", "internal/strconv.uint64pow10", "math/bits.deBruijn32tab", "math/bits.deBruijn64tab"], apart := false, laid := [("math/bits.deBruijn32tab", laid_math_bits_deBruijn32tab), ("math/bits.deBruijn64tab", laid_math_bits_deBruijn64tab), ("internal/strconv.uint64pow10", laid_internal_strconv_uint64pow10), ("unicode/utf8.acceptRanges", laid_unicode_utf8_acceptRanges), ("unicode/utf8.first", laid_unicode_utf8_first)] }
def FnKeeperFallSaid : Prop := fnKeeperFallRow.holds Tryz.pinned (OpenSpec.ofChange fnKeeperFallSpec)

/-- ITS FALSE NEIGHBOUR: 'it returns false'. Refute it at one input. -/
def fnKeeperFallWrong : ChangeSpec := { name := "fnKeeperFall", fn := fun _ => fun
  | [d] => { results := [.lit (.bool false)], args := [d] }
  | _ => none }
def FnKeeperFallWrongFalsely : Prop := fnKeeperFallRow.holds Tryz.pinned (OpenSpec.ofChange fnKeeperFallWrong)

/-- 'laws.FnKeeperRise': WHATEVER THE INPUT: true; the input reads as it did. -/
def fnKeeperRiseSpec : ChangeSpec := { name := "fnKeeperRise", fn := fun _ => fun
  | [d] => { results := [.lit (.bool true)], args := [d] }
  | _ => none }
def fnKeeperRiseRow : OpenClaim := { program := "ythbgjfegalcenaagreatdoor", sum := "3f3b845f45e431e4a7e097471fca511d48ac4641d981cd0ec95dd68fefc52862", func := "loop.example/bargeman/laws.FnKeeperRise", spec := "fnKeeperRise", inPlace := ["internal/bytealg.IndexByteString", "internal/bytealg.IndexString", "internal/bytealg.CountString"], recurses := true, named := ["internal/bytealg.MaxLen", "unicode/utf8.first", "unicode/utf8.acceptRanges", "internal/strconv.uint64pow10", "math/bits.deBruijn32tab", "math/bits.deBruijn64tab"], apart := false, laid := [("math/bits.deBruijn32tab", laid_math_bits_deBruijn32tab), ("math/bits.deBruijn64tab", laid_math_bits_deBruijn64tab), ("internal/strconv.uint64pow10", laid_internal_strconv_uint64pow10), ("unicode/utf8.acceptRanges", laid_unicode_utf8_acceptRanges), ("unicode/utf8.first", laid_unicode_utf8_first)] }
def FnKeeperRiseSaid : Prop := fnKeeperRiseRow.holds Tryz.pinned (OpenSpec.ofChange fnKeeperRiseSpec)

/-- ITS FALSE NEIGHBOUR: 'it returns false'. Refute it at one input. -/
def fnKeeperRiseWrong : ChangeSpec := { name := "fnKeeperRise", fn := fun _ => fun
  | [d] => { results := [.lit (.bool false)], args := [d] }
  | _ => none }
def FnKeeperRiseWrongFalsely : Prop := fnKeeperRiseRow.holds Tryz.pinned (OpenSpec.ofChange fnKeeperRiseWrong)

/-- 'laws.FnKeeperForce': WHATEVER THE INPUT: true; the input reads as it did. -/
def fnKeeperForceSpec : ChangeSpec := { name := "fnKeeperForce", fn := fun _ => fun
  | [d] => { results := [.lit (.bool true)], args := [d] }
  | _ => none }
def fnKeeperForceRow : OpenClaim := { program := "ythbgjfegalcenaagreatdoor", sum := "3f3b845f45e431e4a7e097471fca511d48ac4641d981cd0ec95dd68fefc52862", func := "loop.example/bargeman/laws.FnKeeperForce", spec := "fnKeeperForce", inPlace := ["internal/bytealg.IndexByteString", "internal/bytealg.IndexString", "internal/bytealg.CountString"], recurses := true, named := ["internal/bytealg.MaxLen", "unicode/utf8.first", "unicode/utf8.acceptRanges", "internal/strconv.uint64pow10", "math/bits.deBruijn32tab", "math/bits.deBruijn64tab"], apart := false, laid := [("math/bits.deBruijn32tab", laid_math_bits_deBruijn32tab), ("math/bits.deBruijn64tab", laid_math_bits_deBruijn64tab), ("internal/strconv.uint64pow10", laid_internal_strconv_uint64pow10), ("unicode/utf8.acceptRanges", laid_unicode_utf8_acceptRanges), ("unicode/utf8.first", laid_unicode_utf8_first)] }
def FnKeeperForceSaid : Prop := fnKeeperForceRow.holds Tryz.pinned (OpenSpec.ofChange fnKeeperForceSpec)

/-- ITS FALSE NEIGHBOUR: 'it returns false'. Refute it at one input. -/
def fnKeeperForceWrong : ChangeSpec := { name := "fnKeeperForce", fn := fun _ => fun
  | [d] => { results := [.lit (.bool false)], args := [d] }
  | _ => none }
def FnKeeperForceWrongFalsely : Prop := fnKeeperForceRow.holds Tryz.pinned (OpenSpec.ofChange fnKeeperForceWrong)

/-- 'laws.FnKeeperPack': WHATEVER THE INPUT: true; the input reads as it did. -/
def fnKeeperPackSpec : ChangeSpec := { name := "fnKeeperPack", fn := fun _ => fun
  | [d] => { results := [.lit (.bool true)], args := [d] }
  | _ => none }
def fnKeeperPackRow : OpenClaim := { program := "ythbgjfegalcenaagreatdoor", sum := "3f3b845f45e431e4a7e097471fca511d48ac4641d981cd0ec95dd68fefc52862", func := "loop.example/bargeman/laws.FnKeeperPack", spec := "fnKeeperPack", inPlace := ["internal/bytealg.IndexByteString", "internal/bytealg.IndexString", "internal/bytealg.CountString"], recurses := true, named := ["internal/bytealg.MaxLen", "unicode/utf8.first", "unicode/utf8.acceptRanges", "internal/strconv.uint64pow10", "math/bits.deBruijn32tab", "math/bits.deBruijn64tab"], apart := false, laid := [("math/bits.deBruijn32tab", laid_math_bits_deBruijn32tab), ("math/bits.deBruijn64tab", laid_math_bits_deBruijn64tab), ("internal/strconv.uint64pow10", laid_internal_strconv_uint64pow10), ("unicode/utf8.acceptRanges", laid_unicode_utf8_acceptRanges), ("unicode/utf8.first", laid_unicode_utf8_first)] }
def FnKeeperPackSaid : Prop := fnKeeperPackRow.holds Tryz.pinned (OpenSpec.ofChange fnKeeperPackSpec)

/-- ITS FALSE NEIGHBOUR: 'it returns false'. Refute it at one input. -/
def fnKeeperPackWrong : ChangeSpec := { name := "fnKeeperPack", fn := fun _ => fun
  | [d] => { results := [.lit (.bool false)], args := [d] }
  | _ => none }
def FnKeeperPackWrongFalsely : Prop := fnKeeperPackRow.holds Tryz.pinned (OpenSpec.ofChange fnKeeperPackWrong)

/-- 'laws.FnKeeperNum': WHATEVER THE INPUT: true; the input reads as it did. -/
def fnKeeperNumSpec : ChangeSpec := { name := "fnKeeperNum", fn := fun _ => fun
  | [d1, d2] => { results := [.lit (.bool true)], args := [d1, d2] }
  | _ => none }
def fnKeeperNumRow : OpenClaim := { program := "ythbgjfegalcenaagreatdoor", sum := "3f3b845f45e431e4a7e097471fca511d48ac4641d981cd0ec95dd68fefc52862", func := "loop.example/bargeman/laws.FnKeeperNum", spec := "fnKeeperNum", inPlace := ["internal/bytealg.IndexByteString", "internal/bytealg.IndexString", "internal/bytealg.CountString"], recurses := true, named := ["internal/bytealg.MaxLen", "unicode/utf8.first", "unicode/utf8.acceptRanges", "internal/strconv.uint64pow10", "math/bits.deBruijn32tab", "math/bits.deBruijn64tab"], apart := false, laid := [("math/bits.deBruijn32tab", laid_math_bits_deBruijn32tab), ("math/bits.deBruijn64tab", laid_math_bits_deBruijn64tab), ("internal/strconv.uint64pow10", laid_internal_strconv_uint64pow10), ("unicode/utf8.acceptRanges", laid_unicode_utf8_acceptRanges), ("unicode/utf8.first", laid_unicode_utf8_first)] }
def FnKeeperNumSaid : Prop := fnKeeperNumRow.holds Tryz.pinned (OpenSpec.ofChange fnKeeperNumSpec)

/-- ITS FALSE NEIGHBOUR: 'it returns false'. Refute it at one input. -/
def fnKeeperNumWrong : ChangeSpec := { name := "fnKeeperNum", fn := fun _ => fun
  | [d1, d2] => { results := [.lit (.bool false)], args := [d1, d2] }
  | _ => none }
def FnKeeperNumWrongFalsely : Prop := fnKeeperNumRow.holds Tryz.pinned (OpenSpec.ofChange fnKeeperNumWrong)

/-- 'laws.FnKeeperCut': WHATEVER THE INPUT: true; the input reads as it did. -/
def fnKeeperCutSpec : ChangeSpec := { name := "fnKeeperCut", fn := fun _ => fun
  | [d1, d2] => { results := [.lit (.bool true)], args := [d1, d2] }
  | _ => none }
def fnKeeperCutRow : OpenClaim := { program := "ythbgjfegalcenaagreatdoor", sum := "3f3b845f45e431e4a7e097471fca511d48ac4641d981cd0ec95dd68fefc52862", func := "loop.example/bargeman/laws.FnKeeperCut", spec := "fnKeeperCut", inPlace := ["internal/bytealg.IndexByteString", "internal/bytealg.IndexString", "internal/bytealg.CountString"], recurses := true, named := ["internal/bytealg.MaxLen", "unicode/utf8.first", "unicode/utf8.acceptRanges", "internal/strconv.uint64pow10", "math/bits.deBruijn32tab", "math/bits.deBruijn64tab"], apart := false, laid := [("math/bits.deBruijn32tab", laid_math_bits_deBruijn32tab), ("math/bits.deBruijn64tab", laid_math_bits_deBruijn64tab), ("internal/strconv.uint64pow10", laid_internal_strconv_uint64pow10), ("unicode/utf8.acceptRanges", laid_unicode_utf8_acceptRanges), ("unicode/utf8.first", laid_unicode_utf8_first)] }
def FnKeeperCutSaid : Prop := fnKeeperCutRow.holds Tryz.pinned (OpenSpec.ofChange fnKeeperCutSpec)

/-- ITS FALSE NEIGHBOUR: 'it returns false'. Refute it at one input. -/
def fnKeeperCutWrong : ChangeSpec := { name := "fnKeeperCut", fn := fun _ => fun
  | [d1, d2] => { results := [.lit (.bool false)], args := [d1, d2] }
  | _ => none }
def FnKeeperCutWrongFalsely : Prop := fnKeeperCutRow.holds Tryz.pinned (OpenSpec.ofChange fnKeeperCutWrong)

/-- 'laws.FnKeeperOwn': WHATEVER THE INPUT: true; the input reads as it did. -/
def fnKeeperOwnSpec : ChangeSpec := { name := "fnKeeperOwn", fn := fun _ => fun
  | [d] => { results := [.lit (.bool true)], args := [d] }
  | _ => none }
def fnKeeperOwnRow : OpenClaim := { program := "ythbgjfegalcenaagreatdoor", sum := "3f3b845f45e431e4a7e097471fca511d48ac4641d981cd0ec95dd68fefc52862", func := "loop.example/bargeman/laws.FnKeeperOwn", spec := "fnKeeperOwn", inPlace := ["internal/bytealg.IndexByteString", "internal/bytealg.IndexString", "internal/bytealg.CountString"], recurses := true, named := ["internal/bytealg.MaxLen", "unicode/utf8.first", "unicode/utf8.acceptRanges", "internal/strconv.uint64pow10", "math/bits.deBruijn32tab", "math/bits.deBruijn64tab"], apart := false, laid := [("math/bits.deBruijn32tab", laid_math_bits_deBruijn32tab), ("math/bits.deBruijn64tab", laid_math_bits_deBruijn64tab), ("internal/strconv.uint64pow10", laid_internal_strconv_uint64pow10), ("unicode/utf8.acceptRanges", laid_unicode_utf8_acceptRanges), ("unicode/utf8.first", laid_unicode_utf8_first)] }
def FnKeeperOwnSaid : Prop := fnKeeperOwnRow.holds Tryz.pinned (OpenSpec.ofChange fnKeeperOwnSpec)

/-- ITS FALSE NEIGHBOUR: 'it returns false'. Refute it at one input. -/
def fnKeeperOwnWrong : ChangeSpec := { name := "fnKeeperOwn", fn := fun _ => fun
  | [d] => { results := [.lit (.bool false)], args := [d] }
  | _ => none }
def FnKeeperOwnWrongFalsely : Prop := fnKeeperOwnRow.holds Tryz.pinned (OpenSpec.ofChange fnKeeperOwnWrong)

/-- 'laws.FnKeeperTime': WHATEVER THE INPUT: true; the input reads as it did. -/
def fnKeeperTimeSpec : ChangeSpec := { name := "fnKeeperTime", fn := fun _ => fun
  | [d] => { results := [.lit (.bool true)], args := [d] }
  | _ => none }
def fnKeeperTimeRow : OpenClaim := { program := "ythbgjfegalcenaagreatdoor", sum := "3f3b845f45e431e4a7e097471fca511d48ac4641d981cd0ec95dd68fefc52862", func := "loop.example/bargeman/laws.FnKeeperTime", spec := "fnKeeperTime", inPlace := ["internal/bytealg.IndexByteString", "internal/bytealg.IndexString", "internal/bytealg.CountString"], recurses := true, named := ["internal/bytealg.MaxLen", "unicode/utf8.first", "unicode/utf8.acceptRanges", "internal/strconv.uint64pow10", "math/bits.deBruijn32tab", "math/bits.deBruijn64tab"], apart := false, laid := [("math/bits.deBruijn32tab", laid_math_bits_deBruijn32tab), ("math/bits.deBruijn64tab", laid_math_bits_deBruijn64tab), ("internal/strconv.uint64pow10", laid_internal_strconv_uint64pow10), ("unicode/utf8.acceptRanges", laid_unicode_utf8_acceptRanges), ("unicode/utf8.first", laid_unicode_utf8_first)] }
def FnKeeperTimeSaid : Prop := fnKeeperTimeRow.holds Tryz.pinned (OpenSpec.ofChange fnKeeperTimeSpec)

/-- ITS FALSE NEIGHBOUR: 'it returns false'. Refute it at one input. -/
def fnKeeperTimeWrong : ChangeSpec := { name := "fnKeeperTime", fn := fun _ => fun
  | [d] => { results := [.lit (.bool false)], args := [d] }
  | _ => none }
def FnKeeperTimeWrongFalsely : Prop := fnKeeperTimeRow.holds Tryz.pinned (OpenSpec.ofChange fnKeeperTimeWrong)

/-- 'laws.FnKeeperMix': WHATEVER THE INPUT: true; the input reads as it did. -/
def fnKeeperMixSpec : ChangeSpec := { name := "fnKeeperMix", fn := fun _ => fun
  | [d] => { results := [.lit (.bool true)], args := [d] }
  | _ => none }
def fnKeeperMixRow : OpenClaim := { program := "ythbgjfegalcenaagreatdoor", sum := "3f3b845f45e431e4a7e097471fca511d48ac4641d981cd0ec95dd68fefc52862", func := "loop.example/bargeman/laws.FnKeeperMix", spec := "fnKeeperMix", inPlace := ["internal/bytealg.IndexByteString", "internal/bytealg.IndexString", "internal/bytealg.CountString"], recurses := true, named := ["internal/bytealg.MaxLen", "unicode/utf8.first", "unicode/utf8.acceptRanges", "internal/strconv.uint64pow10", "math/bits.deBruijn32tab", "math/bits.deBruijn64tab"], apart := false, laid := [("math/bits.deBruijn32tab", laid_math_bits_deBruijn32tab), ("math/bits.deBruijn64tab", laid_math_bits_deBruijn64tab), ("internal/strconv.uint64pow10", laid_internal_strconv_uint64pow10), ("unicode/utf8.acceptRanges", laid_unicode_utf8_acceptRanges), ("unicode/utf8.first", laid_unicode_utf8_first)] }
def FnKeeperMixSaid : Prop := fnKeeperMixRow.holds Tryz.pinned (OpenSpec.ofChange fnKeeperMixSpec)

/-- ITS FALSE NEIGHBOUR: 'it returns false'. Refute it at one input. -/
def fnKeeperMixWrong : ChangeSpec := { name := "fnKeeperMix", fn := fun _ => fun
  | [d] => { results := [.lit (.bool false)], args := [d] }
  | _ => none }
def FnKeeperMixWrongFalsely : Prop := fnKeeperMixRow.holds Tryz.pinned (OpenSpec.ofChange fnKeeperMixWrong)

/-- 'laws.FnKeeperEat': WHATEVER THE INPUT: true; the input reads as it did. -/
def fnKeeperEatSpec : ChangeSpec := { name := "fnKeeperEat", fn := fun _ => fun
  | [d] => { results := [.lit (.bool true)], args := [d] }
  | _ => none }
def fnKeeperEatRow : OpenClaim := { program := "ythbgjfegalcenaagreatdoor", sum := "3f3b845f45e431e4a7e097471fca511d48ac4641d981cd0ec95dd68fefc52862", func := "loop.example/bargeman/laws.FnKeeperEat", spec := "fnKeeperEat", inPlace := ["internal/bytealg.IndexByteString", "internal/bytealg.IndexString", "internal/bytealg.CountString"], recurses := true, named := ["internal/bytealg.MaxLen", "unicode/utf8.first", "unicode/utf8.acceptRanges", "internal/strconv.uint64pow10", "math/bits.deBruijn32tab", "math/bits.deBruijn64tab"], apart := false, laid := [("math/bits.deBruijn32tab", laid_math_bits_deBruijn32tab), ("math/bits.deBruijn64tab", laid_math_bits_deBruijn64tab), ("internal/strconv.uint64pow10", laid_internal_strconv_uint64pow10), ("unicode/utf8.acceptRanges", laid_unicode_utf8_acceptRanges), ("unicode/utf8.first", laid_unicode_utf8_first)] }
def FnKeeperEatSaid : Prop := fnKeeperEatRow.holds Tryz.pinned (OpenSpec.ofChange fnKeeperEatSpec)

/-- ITS FALSE NEIGHBOUR: 'it returns false'. Refute it at one input. -/
def fnKeeperEatWrong : ChangeSpec := { name := "fnKeeperEat", fn := fun _ => fun
  | [d] => { results := [.lit (.bool false)], args := [d] }
  | _ => none }
def FnKeeperEatWrongFalsely : Prop := fnKeeperEatRow.holds Tryz.pinned (OpenSpec.ofChange fnKeeperEatWrong)

/- THE SECOND FORM. 'bulk': how many values and letters a reading holds, each counted each time it is reached (what is shared counts as often as it is met; a slice's spare places count too). A statement '..UptoSaid' is the law's where the arguments, and the package variables that the reading takes, are together of bulk at most 1048576: NARROWER than '..Said'. Prove '..Said' where nothing that the law and all that it calls make is longer than what came in: it says more and counts as full. Else prove '..UptoSaid'. A law counts once. -/
mutual
def uptoBulk {H : Type} : DataW H → Nat
  | .lit (.string bytes) => bytes.length + 1
  | .lit _ => 1
  | .nil => 1
  | .ptr d => uptoBulk d + 1
  | .slice elems spare => uptoBulkAll elems + uptoBulkAll spare + 1
  | .agg parts => uptoBulkAll parts + 1
  | .iface _ d => uptoBulk d + 1
  | .map entries => uptoBulkEntries entries + 1
  | .held _ => 1
def uptoBulkAll {H : Type} : List (DataW H) → Nat
  | [] => 0
  | d :: r => uptoBulk d + uptoBulkAll r
def uptoBulkEntries {H : Type} : List (Lit × DataW H) → Nat
  | [] => 0
  | x :: r => uptoBulkEntry x + uptoBulkEntries r
def uptoBulkEntry {H : Type} : Lit × DataW H → Nat
  | (.string bytes, d) => bytes.length + uptoBulk d + 1
  | (_, d) => uptoBulk d + 1
 end
def uptoSmall : (H : Type) → List (DataW H) → Bool := fun _ ds => decide (uptoBulkAll ds ≤ 1048576)
def OpenSpec.upto (s : _root_.Go.ChangeSpec) : _root_.Go.OpenSpec := { _root_.Go.OpenSpec.ofChange s with cond := some uptoSmall }

/-- 'laws.FnKeeperHas', WHERE WHAT IT READS IS OF BULK AT MOST 1048576: true; the input reads as it did. -/
def fnKeeperHasUptoRow : OpenClaim := { program := "ythbgjfegalcenaagreatdoor", sum := "3f3b845f45e431e4a7e097471fca511d48ac4641d981cd0ec95dd68fefc52862", func := "loop.example/bargeman/laws.FnKeeperHas", spec := "fnKeeperHas", inPlace := ["internal/bytealg.IndexByteString", "internal/bytealg.IndexString", "internal/bytealg.CountString"], recurses := true, named := ["internal/bytealg.MaxLen", "unicode/utf8.first", "unicode/utf8.acceptRanges", "internal/strconv.uint64pow10", "math/bits.deBruijn32tab", "math/bits.deBruijn64tab"], apart := false, laid := [("math/bits.deBruijn32tab", laid_math_bits_deBruijn32tab), ("math/bits.deBruijn64tab", laid_math_bits_deBruijn64tab), ("internal/strconv.uint64pow10", laid_internal_strconv_uint64pow10), ("unicode/utf8.acceptRanges", laid_unicode_utf8_acceptRanges), ("unicode/utf8.first", laid_unicode_utf8_first)], narrowed := true }
def FnKeeperHasUptoSaid : Prop := fnKeeperHasUptoRow.holds Tryz.pinned (OpenSpec.upto fnKeeperHasSpec)

/-- 'laws.FnKeeperFall', WHERE WHAT IT READS IS OF BULK AT MOST 1048576: true; the input reads as it did. -/
def fnKeeperFallUptoRow : OpenClaim := { program := "ythbgjfegalcenaagreatdoor", sum := "3f3b845f45e431e4a7e097471fca511d48ac4641d981cd0ec95dd68fefc52862", func := "loop.example/bargeman/laws.FnKeeperFall", spec := "fnKeeperFall", inPlace := ["internal/bytealg.IndexByteString", "internal/bytealg.IndexString", "internal/bytealg.CountString"], recurses := true, named := ["internal/bytealg.MaxLen", "unicode/utf8.first", "unicode/utf8.acceptRanges", "internal/strconv.uint64pow10", "math/bits.deBruijn32tab", "math/bits.deBruijn64tab"], apart := false, laid := [("math/bits.deBruijn32tab", laid_math_bits_deBruijn32tab), ("math/bits.deBruijn64tab", laid_math_bits_deBruijn64tab), ("internal/strconv.uint64pow10", laid_internal_strconv_uint64pow10), ("unicode/utf8.acceptRanges", laid_unicode_utf8_acceptRanges), ("unicode/utf8.first", laid_unicode_utf8_first)], narrowed := true }
def FnKeeperFallUptoSaid : Prop := fnKeeperFallUptoRow.holds Tryz.pinned (OpenSpec.upto fnKeeperFallSpec)

/-- 'laws.FnKeeperRise', WHERE WHAT IT READS IS OF BULK AT MOST 1048576: true; the input reads as it did. -/
def fnKeeperRiseUptoRow : OpenClaim := { program := "ythbgjfegalcenaagreatdoor", sum := "3f3b845f45e431e4a7e097471fca511d48ac4641d981cd0ec95dd68fefc52862", func := "loop.example/bargeman/laws.FnKeeperRise", spec := "fnKeeperRise", inPlace := ["internal/bytealg.IndexByteString", "internal/bytealg.IndexString", "internal/bytealg.CountString"], recurses := true, named := ["internal/bytealg.MaxLen", "unicode/utf8.first", "unicode/utf8.acceptRanges", "internal/strconv.uint64pow10", "math/bits.deBruijn32tab", "math/bits.deBruijn64tab"], apart := false, laid := [("math/bits.deBruijn32tab", laid_math_bits_deBruijn32tab), ("math/bits.deBruijn64tab", laid_math_bits_deBruijn64tab), ("internal/strconv.uint64pow10", laid_internal_strconv_uint64pow10), ("unicode/utf8.acceptRanges", laid_unicode_utf8_acceptRanges), ("unicode/utf8.first", laid_unicode_utf8_first)], narrowed := true }
def FnKeeperRiseUptoSaid : Prop := fnKeeperRiseUptoRow.holds Tryz.pinned (OpenSpec.upto fnKeeperRiseSpec)

/-- 'laws.FnKeeperForce', WHERE WHAT IT READS IS OF BULK AT MOST 1048576: true; the input reads as it did. -/
def fnKeeperForceUptoRow : OpenClaim := { program := "ythbgjfegalcenaagreatdoor", sum := "3f3b845f45e431e4a7e097471fca511d48ac4641d981cd0ec95dd68fefc52862", func := "loop.example/bargeman/laws.FnKeeperForce", spec := "fnKeeperForce", inPlace := ["internal/bytealg.IndexByteString", "internal/bytealg.IndexString", "internal/bytealg.CountString"], recurses := true, named := ["internal/bytealg.MaxLen", "unicode/utf8.first", "unicode/utf8.acceptRanges", "internal/strconv.uint64pow10", "math/bits.deBruijn32tab", "math/bits.deBruijn64tab"], apart := false, laid := [("math/bits.deBruijn32tab", laid_math_bits_deBruijn32tab), ("math/bits.deBruijn64tab", laid_math_bits_deBruijn64tab), ("internal/strconv.uint64pow10", laid_internal_strconv_uint64pow10), ("unicode/utf8.acceptRanges", laid_unicode_utf8_acceptRanges), ("unicode/utf8.first", laid_unicode_utf8_first)], narrowed := true }
def FnKeeperForceUptoSaid : Prop := fnKeeperForceUptoRow.holds Tryz.pinned (OpenSpec.upto fnKeeperForceSpec)

/-- 'laws.FnKeeperPack', WHERE WHAT IT READS IS OF BULK AT MOST 1048576: true; the input reads as it did. -/
def fnKeeperPackUptoRow : OpenClaim := { program := "ythbgjfegalcenaagreatdoor", sum := "3f3b845f45e431e4a7e097471fca511d48ac4641d981cd0ec95dd68fefc52862", func := "loop.example/bargeman/laws.FnKeeperPack", spec := "fnKeeperPack", inPlace := ["internal/bytealg.IndexByteString", "internal/bytealg.IndexString", "internal/bytealg.CountString"], recurses := true, named := ["internal/bytealg.MaxLen", "unicode/utf8.first", "unicode/utf8.acceptRanges", "internal/strconv.uint64pow10", "math/bits.deBruijn32tab", "math/bits.deBruijn64tab"], apart := false, laid := [("math/bits.deBruijn32tab", laid_math_bits_deBruijn32tab), ("math/bits.deBruijn64tab", laid_math_bits_deBruijn64tab), ("internal/strconv.uint64pow10", laid_internal_strconv_uint64pow10), ("unicode/utf8.acceptRanges", laid_unicode_utf8_acceptRanges), ("unicode/utf8.first", laid_unicode_utf8_first)], narrowed := true }
def FnKeeperPackUptoSaid : Prop := fnKeeperPackUptoRow.holds Tryz.pinned (OpenSpec.upto fnKeeperPackSpec)

/-- 'laws.FnKeeperNum', WHERE WHAT IT READS IS OF BULK AT MOST 1048576: true; the input reads as it did. -/
def fnKeeperNumUptoRow : OpenClaim := { program := "ythbgjfegalcenaagreatdoor", sum := "3f3b845f45e431e4a7e097471fca511d48ac4641d981cd0ec95dd68fefc52862", func := "loop.example/bargeman/laws.FnKeeperNum", spec := "fnKeeperNum", inPlace := ["internal/bytealg.IndexByteString", "internal/bytealg.IndexString", "internal/bytealg.CountString"], recurses := true, named := ["internal/bytealg.MaxLen", "unicode/utf8.first", "unicode/utf8.acceptRanges", "internal/strconv.uint64pow10", "math/bits.deBruijn32tab", "math/bits.deBruijn64tab"], apart := false, laid := [("math/bits.deBruijn32tab", laid_math_bits_deBruijn32tab), ("math/bits.deBruijn64tab", laid_math_bits_deBruijn64tab), ("internal/strconv.uint64pow10", laid_internal_strconv_uint64pow10), ("unicode/utf8.acceptRanges", laid_unicode_utf8_acceptRanges), ("unicode/utf8.first", laid_unicode_utf8_first)], narrowed := true }
def FnKeeperNumUptoSaid : Prop := fnKeeperNumUptoRow.holds Tryz.pinned (OpenSpec.upto fnKeeperNumSpec)

/-- 'laws.FnKeeperCut', WHERE WHAT IT READS IS OF BULK AT MOST 1048576: true; the input reads as it did. -/
def fnKeeperCutUptoRow : OpenClaim := { program := "ythbgjfegalcenaagreatdoor", sum := "3f3b845f45e431e4a7e097471fca511d48ac4641d981cd0ec95dd68fefc52862", func := "loop.example/bargeman/laws.FnKeeperCut", spec := "fnKeeperCut", inPlace := ["internal/bytealg.IndexByteString", "internal/bytealg.IndexString", "internal/bytealg.CountString"], recurses := true, named := ["internal/bytealg.MaxLen", "unicode/utf8.first", "unicode/utf8.acceptRanges", "internal/strconv.uint64pow10", "math/bits.deBruijn32tab", "math/bits.deBruijn64tab"], apart := false, laid := [("math/bits.deBruijn32tab", laid_math_bits_deBruijn32tab), ("math/bits.deBruijn64tab", laid_math_bits_deBruijn64tab), ("internal/strconv.uint64pow10", laid_internal_strconv_uint64pow10), ("unicode/utf8.acceptRanges", laid_unicode_utf8_acceptRanges), ("unicode/utf8.first", laid_unicode_utf8_first)], narrowed := true }
def FnKeeperCutUptoSaid : Prop := fnKeeperCutUptoRow.holds Tryz.pinned (OpenSpec.upto fnKeeperCutSpec)

/-- 'laws.FnKeeperOwn', WHERE WHAT IT READS IS OF BULK AT MOST 1048576: true; the input reads as it did. -/
def fnKeeperOwnUptoRow : OpenClaim := { program := "ythbgjfegalcenaagreatdoor", sum := "3f3b845f45e431e4a7e097471fca511d48ac4641d981cd0ec95dd68fefc52862", func := "loop.example/bargeman/laws.FnKeeperOwn", spec := "fnKeeperOwn", inPlace := ["internal/bytealg.IndexByteString", "internal/bytealg.IndexString", "internal/bytealg.CountString"], recurses := true, named := ["internal/bytealg.MaxLen", "unicode/utf8.first", "unicode/utf8.acceptRanges", "internal/strconv.uint64pow10", "math/bits.deBruijn32tab", "math/bits.deBruijn64tab"], apart := false, laid := [("math/bits.deBruijn32tab", laid_math_bits_deBruijn32tab), ("math/bits.deBruijn64tab", laid_math_bits_deBruijn64tab), ("internal/strconv.uint64pow10", laid_internal_strconv_uint64pow10), ("unicode/utf8.acceptRanges", laid_unicode_utf8_acceptRanges), ("unicode/utf8.first", laid_unicode_utf8_first)], narrowed := true }
def FnKeeperOwnUptoSaid : Prop := fnKeeperOwnUptoRow.holds Tryz.pinned (OpenSpec.upto fnKeeperOwnSpec)

/-- 'laws.FnKeeperTime', WHERE WHAT IT READS IS OF BULK AT MOST 1048576: true; the input reads as it did. -/
def fnKeeperTimeUptoRow : OpenClaim := { program := "ythbgjfegalcenaagreatdoor", sum := "3f3b845f45e431e4a7e097471fca511d48ac4641d981cd0ec95dd68fefc52862", func := "loop.example/bargeman/laws.FnKeeperTime", spec := "fnKeeperTime", inPlace := ["internal/bytealg.IndexByteString", "internal/bytealg.IndexString", "internal/bytealg.CountString"], recurses := true, named := ["internal/bytealg.MaxLen", "unicode/utf8.first", "unicode/utf8.acceptRanges", "internal/strconv.uint64pow10", "math/bits.deBruijn32tab", "math/bits.deBruijn64tab"], apart := false, laid := [("math/bits.deBruijn32tab", laid_math_bits_deBruijn32tab), ("math/bits.deBruijn64tab", laid_math_bits_deBruijn64tab), ("internal/strconv.uint64pow10", laid_internal_strconv_uint64pow10), ("unicode/utf8.acceptRanges", laid_unicode_utf8_acceptRanges), ("unicode/utf8.first", laid_unicode_utf8_first)], narrowed := true }
def FnKeeperTimeUptoSaid : Prop := fnKeeperTimeUptoRow.holds Tryz.pinned (OpenSpec.upto fnKeeperTimeSpec)

/-- 'laws.FnKeeperMix', WHERE WHAT IT READS IS OF BULK AT MOST 1048576: true; the input reads as it did. -/
def fnKeeperMixUptoRow : OpenClaim := { program := "ythbgjfegalcenaagreatdoor", sum := "3f3b845f45e431e4a7e097471fca511d48ac4641d981cd0ec95dd68fefc52862", func := "loop.example/bargeman/laws.FnKeeperMix", spec := "fnKeeperMix", inPlace := ["internal/bytealg.IndexByteString", "internal/bytealg.IndexString", "internal/bytealg.CountString"], recurses := true, named := ["internal/bytealg.MaxLen", "unicode/utf8.first", "unicode/utf8.acceptRanges", "internal/strconv.uint64pow10", "math/bits.deBruijn32tab", "math/bits.deBruijn64tab"], apart := false, laid := [("math/bits.deBruijn32tab", laid_math_bits_deBruijn32tab), ("math/bits.deBruijn64tab", laid_math_bits_deBruijn64tab), ("internal/strconv.uint64pow10", laid_internal_strconv_uint64pow10), ("unicode/utf8.acceptRanges", laid_unicode_utf8_acceptRanges), ("unicode/utf8.first", laid_unicode_utf8_first)], narrowed := true }
def FnKeeperMixUptoSaid : Prop := fnKeeperMixUptoRow.holds Tryz.pinned (OpenSpec.upto fnKeeperMixSpec)

/-- 'laws.FnKeeperEat', WHERE WHAT IT READS IS OF BULK AT MOST 1048576: true; the input reads as it did. -/
def fnKeeperEatUptoRow : OpenClaim := { program := "ythbgjfegalcenaagreatdoor", sum := "3f3b845f45e431e4a7e097471fca511d48ac4641d981cd0ec95dd68fefc52862", func := "loop.example/bargeman/laws.FnKeeperEat", spec := "fnKeeperEat", inPlace := ["internal/bytealg.IndexByteString", "internal/bytealg.IndexString", "internal/bytealg.CountString"], recurses := true, named := ["internal/bytealg.MaxLen", "unicode/utf8.first", "unicode/utf8.acceptRanges", "internal/strconv.uint64pow10", "math/bits.deBruijn32tab", "math/bits.deBruijn64tab"], apart := false, laid := [("math/bits.deBruijn32tab", laid_math_bits_deBruijn32tab), ("math/bits.deBruijn64tab", laid_math_bits_deBruijn64tab), ("internal/strconv.uint64pow10", laid_internal_strconv_uint64pow10), ("unicode/utf8.acceptRanges", laid_unicode_utf8_acceptRanges), ("unicode/utf8.first", laid_unicode_utf8_first)], narrowed := true }
def FnKeeperEatUptoSaid : Prop := fnKeeperEatUptoRow.holds Tryz.pinned (OpenSpec.upto fnKeeperEatSpec)

end Rows
end Go.Proofs.YthbgjfegalcenaaGreatDoor
