/- The types of this seat, as Ab's table. Printed by gentab2.py. -/
import Derived.Test.YtlkfibmjdigmiaaProg
import Derived.Test.YtlkfibmjdigmiaaAbU
namespace Go.Proofs.Ytlkfibmjdigmiaa
open Go Go.Ab Go.RowKit
set_option linter.unusedVariables false

abbrev ti2 : TI := ⟨.int .i64, 1, 8, [.d (.i 0)]⟩
abbrev ti3 : TI := ⟨.int .i64, 1, 8, [.d (.i 0)]⟩
abbrev ti4 : TI := ⟨.bool, 1, 1, [.d (.b false)]⟩
abbrev ti5 : TI := ⟨.int .u8, 1, 1, [.d (.u 0)]⟩
abbrev ti6 : TI := ⟨.int .u8, 1, 1, [.d (.u 0)]⟩
abbrev ti7 : TI := ⟨.st [(0, 2), (1, 3), (2, 4), (3, 6)], 4, 24, [.d (.i 0), .d (.i 0), .d (.b false), .d (.u 0)]⟩
abbrev ti8 : TI := ⟨.st [(0, 2), (1, 3), (2, 4), (3, 6)], 4, 24, [.d (.i 0), .d (.i 0), .d (.b false), .d (.u 0)]⟩
abbrev ti9 : TI := ⟨.str, 1, 16, [.d (.s [])]⟩
abbrev ti10 : TI := ⟨.str, 1, 16, [.d (.s [])]⟩
abbrev ti11 : TI := ⟨.str, 1, 16, [.d (.s [])]⟩
abbrev ti12 : TI := ⟨.int .u64, 1, 8, [.d (.x (.int .u64 0))]⟩
abbrev ti13 : TI := ⟨.st [(0, 9), (1, 12)], 2, 24, [.d (.s []), .d (.x (.int .u64 0))]⟩
abbrev ti14 : TI := ⟨.st [(0, 9), (1, 12)], 2, 24, [.d (.s []), .d (.x (.int .u64 0))]⟩
abbrev ti15 : TI := ⟨.ptr 59, 1, 8, [.d (.x (.pointer none))]⟩
abbrev ti16 : TI := ⟨.ptr 62, 1, 8, [.d (.x (.pointer none))]⟩
abbrev ti17 : TI := ⟨.ptr 72, 1, 8, [.d (.x (.pointer none))]⟩
abbrev ti18 : TI := ⟨.st [(0, 17)], 1, 8, [.d (.x (.pointer none))]⟩
abbrev ti19 : TI := ⟨.st [(0, 17)], 1, 8, [.d (.x (.pointer none))]⟩
abbrev ti21 : TI := ⟨.int .i32, 1, 4, [.d (.x (.int .i32 0))]⟩
abbrev ti22 : TI := ⟨.sl 5, 1, 24, [.nil]⟩
abbrev ti23 : TI := ⟨.st [(0, 3), (1, 3), (2, 3), (3, 3), (4, 3), (5, 3), (6, 3), (7, 3), (8, 3), (9, 9)], 10, 88, [.d (.i 0), .d (.i 0), .d (.i 0), .d (.i 0), .d (.i 0), .d (.i 0), .d (.i 0), .d (.i 0), .d (.i 0), .d (.s [])]⟩
abbrev ti24 : TI := ⟨.st [(0, 3), (1, 3), (2, 3), (3, 3), (4, 3), (5, 3), (6, 3), (7, 3), (8, 3), (9, 9)], 10, 88, [.d (.i 0), .d (.i 0), .d (.i 0), .d (.i 0), .d (.i 0), .d (.i 0), .d (.i 0), .d (.i 0), .d (.i 0), .d (.s [])]⟩
abbrev ti35 : TI := ⟨.ptr 50, 1, 8, [.d (.x (.pointer none))]⟩
abbrev ti42 : TI := ⟨.st [(0, 3), (1, 3), (2, 3), (3, 3), (4, 9)], 5, 48, [.d (.i 0), .d (.i 0), .d (.i 0), .d (.i 0), .d (.s [])]⟩
abbrev ti43 : TI := ⟨.st [(0, 3), (1, 3), (2, 3), (3, 3), (4, 9)], 5, 48, [.d (.i 0), .d (.i 0), .d (.i 0), .d (.i 0), .d (.s [])]⟩
abbrev ti46 : TI := ⟨.sl 3, 1, 24, [.nil]⟩
abbrev ti48 : TI := ⟨.sl 9, 1, 24, [.nil]⟩
abbrev ti49 : TI := ⟨.st [(0, 22), (1, 3)], 2, 32, [.nil, .d (.i 0)]⟩
abbrev ti50 : TI := ⟨.st [(0, 22), (1, 3)], 2, 32, [.nil, .d (.i 0)]⟩
abbrev ti57 : TI := ⟨.sl 4, 1, 24, [.nil]⟩
abbrev ti58 : TI := ⟨.st [(0, 17), (1, 17), (2, 17), (3, 9)], 4, 40, [.d (.x (.pointer none)), .d (.x (.pointer none)), .d (.x (.pointer none)), .d (.s [])]⟩
abbrev ti59 : TI := ⟨.st [(0, 17), (1, 17), (2, 17), (3, 9)], 4, 40, [.d (.x (.pointer none)), .d (.x (.pointer none)), .d (.x (.pointer none)), .d (.s [])]⟩
abbrev ti64 : TI := ⟨.int .u32, 1, 4, [.d (.x (.int .u32 0))]⟩
abbrev ti65 : TI := ⟨.int .u8, 1, 1, [.d (.u 0)]⟩
abbrev ti66 : TI := ⟨.int .u8, 1, 1, [.d (.u 0)]⟩
abbrev ti68 : TI := ⟨.ptr 5, 1, 8, [.d (.x (.pointer none))]⟩
abbrev ti69 : TI := ⟨.int .i32, 1, 4, [.d (.x (.int .i32 0))]⟩
abbrev ti70 : TI := ⟨.int .i32, 1, 4, [.d (.x (.int .i32 0))]⟩
def tab : Tab := fun t => match t with
  | 2 => some ti2
  | 3 => some ti3
  | 4 => some ti4
  | 5 => some ti5
  | 6 => some ti6
  | 7 => some ti7
  | 8 => some ti8
  | 9 => some ti9
  | 10 => some ti10
  | 11 => some ti11
  | 12 => some ti12
  | 13 => some ti13
  | 14 => some ti14
  | 15 => some ti15
  | 16 => some ti16
  | 17 => some ti17
  | 18 => some ti18
  | 19 => some ti19
  | 21 => some ti21
  | 22 => some ti22
  | 23 => some ti23
  | 24 => some ti24
  | 35 => some ti35
  | 42 => some ti42
  | 43 => some ti43
  | 46 => some ti46
  | 48 => some ti48
  | 49 => some ti49
  | 50 => some ti50
  | 57 => some ti57
  | 58 => some ti58
  | 59 => some ti59
  | 64 => some ti64
  | 65 => some ti65
  | 66 => some ti66
  | 68 => some ti68
  | 69 => some ti69
  | 70 => some ti70
  | _ => none
theorem tiok2 : TIOk Try.prog 2 ti2 := ⟨Try.underlying2, ⟨Try.t2, _, by kernel_rfl, rfl, rfl, rfl, rfl⟩, rfl, rfl, by decide, by decide⟩
theorem tiok3 : TIOk Try.prog 3 ti3 := ⟨Try.underlying3, ⟨Try.t3, _, by kernel_rfl, rfl, rfl, rfl, rfl⟩, rfl, rfl, by decide, by decide⟩
theorem tiok4 : TIOk Try.prog 4 ti4 := ⟨Try.underlying4, ⟨Try.t4, _, by kernel_rfl, rfl, rfl, rfl, rfl⟩, rfl, rfl, by decide, by decide⟩
theorem tiok5 : TIOk Try.prog 5 ti5 := ⟨Try.underlying5, ⟨Try.t5, _, by kernel_rfl, rfl, rfl, rfl, rfl⟩, rfl, rfl, by decide, by decide⟩
theorem tiok6 : TIOk Try.prog 6 ti6 := ⟨Try.underlying6, ⟨Try.t6, _, by kernel_rfl, rfl, rfl, rfl, rfl⟩, rfl, rfl, by decide, by decide⟩
theorem tiok7 : TIOk Try.prog 7 ti7 := ⟨⟨_, Try.underlying7, rfl⟩, ⟨Try.t7, _, by kernel_rfl, rfl, rfl, rfl, rfl⟩, rfl, rfl, by decide, by decide⟩
theorem tiok8 : TIOk Try.prog 8 ti8 := ⟨⟨_, Try.underlying8, rfl⟩, ⟨Try.t8, _, by kernel_rfl, rfl, rfl, rfl, rfl⟩, rfl, rfl, by decide, by decide⟩
theorem tiok9 : TIOk Try.prog 9 ti9 := ⟨Try.underlying9, ⟨Try.t9, _, by kernel_rfl, rfl, rfl, rfl, rfl⟩, rfl, rfl, by decide, by decide⟩
theorem tiok10 : TIOk Try.prog 10 ti10 := ⟨Try.underlying10, ⟨Try.t10, _, by kernel_rfl, rfl, rfl, rfl, rfl⟩, rfl, rfl, by decide, by decide⟩
theorem tiok11 : TIOk Try.prog 11 ti11 := ⟨Try.underlying11, ⟨Try.t11, _, by kernel_rfl, rfl, rfl, rfl, rfl⟩, rfl, rfl, by decide, by decide⟩
theorem tiok12 : TIOk Try.prog 12 ti12 := ⟨Try.underlying12, ⟨Try.t12, _, by kernel_rfl, rfl, rfl, rfl, rfl⟩, rfl, rfl, by decide, by decide⟩
theorem tiok13 : TIOk Try.prog 13 ti13 := ⟨⟨_, Try.underlying13, rfl⟩, ⟨Try.t13, _, by kernel_rfl, rfl, rfl, rfl, rfl⟩, rfl, rfl, by decide, by decide⟩
theorem tiok14 : TIOk Try.prog 14 ti14 := ⟨⟨_, Try.underlying14, rfl⟩, ⟨Try.t14, _, by kernel_rfl, rfl, rfl, rfl, rfl⟩, rfl, rfl, by decide, by decide⟩
theorem tiok15 : TIOk Try.prog 15 ti15 := ⟨Try.underlying15, ⟨Try.t15, _, by kernel_rfl, rfl, rfl, rfl, rfl⟩, rfl, rfl, by decide, by decide⟩
theorem tiok16 : TIOk Try.prog 16 ti16 := ⟨Try.underlying16, ⟨Try.t16, _, by kernel_rfl, rfl, rfl, rfl, rfl⟩, rfl, rfl, by decide, by decide⟩
theorem tiok17 : TIOk Try.prog 17 ti17 := ⟨Try.underlying17, ⟨Try.t17, _, by kernel_rfl, rfl, rfl, rfl, rfl⟩, rfl, rfl, by decide, by decide⟩
theorem tiok18 : TIOk Try.prog 18 ti18 := ⟨⟨_, Try.underlying18, rfl⟩, ⟨Try.t18, _, by kernel_rfl, rfl, rfl, rfl, rfl⟩, rfl, rfl, by decide, by decide⟩
theorem tiok19 : TIOk Try.prog 19 ti19 := ⟨⟨_, Try.underlying19, rfl⟩, ⟨Try.t19, _, by kernel_rfl, rfl, rfl, rfl, rfl⟩, rfl, rfl, by decide, by decide⟩
theorem tiok21 : TIOk Try.prog 21 ti21 := ⟨Try.underlying21, ⟨Try.t21, _, by kernel_rfl, rfl, rfl, rfl, rfl⟩, rfl, rfl, by decide, by decide⟩
theorem tiok22 : TIOk Try.prog 22 ti22 := ⟨Try.underlying22, ⟨Try.t22, _, by kernel_rfl, rfl, rfl, rfl, rfl⟩, rfl, rfl, by decide, by decide⟩
theorem tiok23 : TIOk Try.prog 23 ti23 := ⟨⟨_, Try.underlying23, rfl⟩, ⟨Try.t23, _, by kernel_rfl, rfl, rfl, rfl, rfl⟩, rfl, rfl, by decide, by decide⟩
theorem tiok24 : TIOk Try.prog 24 ti24 := ⟨⟨_, Try.underlying24, rfl⟩, ⟨Try.t24, _, by kernel_rfl, rfl, rfl, rfl, rfl⟩, rfl, rfl, by decide, by decide⟩
theorem tiok35 : TIOk Try.prog 35 ti35 := ⟨Try.underlying35, ⟨Try.t35, _, by kernel_rfl, rfl, rfl, rfl, rfl⟩, rfl, rfl, by decide, by decide⟩
theorem tiok42 : TIOk Try.prog 42 ti42 := ⟨⟨_, Try.underlying42, rfl⟩, ⟨Try.t42, _, by kernel_rfl, rfl, rfl, rfl, rfl⟩, rfl, rfl, by decide, by decide⟩
theorem tiok43 : TIOk Try.prog 43 ti43 := ⟨⟨_, Try.underlying43, rfl⟩, ⟨Try.t43, _, by kernel_rfl, rfl, rfl, rfl, rfl⟩, rfl, rfl, by decide, by decide⟩
theorem tiok46 : TIOk Try.prog 46 ti46 := ⟨Try.underlying46, ⟨Try.t46, _, by kernel_rfl, rfl, rfl, rfl, rfl⟩, rfl, rfl, by decide, by decide⟩
theorem tiok48 : TIOk Try.prog 48 ti48 := ⟨Try.underlying48, ⟨Try.t48, _, by kernel_rfl, rfl, rfl, rfl, rfl⟩, rfl, rfl, by decide, by decide⟩
theorem tiok49 : TIOk Try.prog 49 ti49 := ⟨⟨_, Try.underlying49, rfl⟩, ⟨Try.t49, _, by kernel_rfl, rfl, rfl, rfl, rfl⟩, rfl, rfl, by decide, by decide⟩
theorem tiok50 : TIOk Try.prog 50 ti50 := ⟨⟨_, Try.underlying50, rfl⟩, ⟨Try.t50, _, by kernel_rfl, rfl, rfl, rfl, rfl⟩, rfl, rfl, by decide, by decide⟩
theorem tiok57 : TIOk Try.prog 57 ti57 := ⟨Try.underlying57, ⟨Try.t57, _, by kernel_rfl, rfl, rfl, rfl, rfl⟩, rfl, rfl, by decide, by decide⟩
theorem tiok58 : TIOk Try.prog 58 ti58 := ⟨⟨_, Try.underlying58, rfl⟩, ⟨Try.t58, _, by kernel_rfl, rfl, rfl, rfl, rfl⟩, rfl, rfl, by decide, by decide⟩
theorem tiok59 : TIOk Try.prog 59 ti59 := ⟨⟨_, Try.underlying59, rfl⟩, ⟨Try.t59, _, by kernel_rfl, rfl, rfl, rfl, rfl⟩, rfl, rfl, by decide, by decide⟩
theorem tiok64 : TIOk Try.prog 64 ti64 := ⟨Try.underlying64, ⟨Try.t64, _, by kernel_rfl, rfl, rfl, rfl, rfl⟩, rfl, rfl, by decide, by decide⟩
theorem tiok65 : TIOk Try.prog 65 ti65 := ⟨Try.underlying65, ⟨Try.t65, _, by kernel_rfl, rfl, rfl, rfl, rfl⟩, rfl, rfl, by decide, by decide⟩
theorem tiok66 : TIOk Try.prog 66 ti66 := ⟨Try.underlying66, ⟨Try.t66, _, by kernel_rfl, rfl, rfl, rfl, rfl⟩, rfl, rfl, by decide, by decide⟩
theorem tiok68 : TIOk Try.prog 68 ti68 := ⟨Try.underlying68, ⟨Try.t68, _, by kernel_rfl, rfl, rfl, rfl, rfl⟩, rfl, rfl, by decide, by decide⟩
theorem tiok69 : TIOk Try.prog 69 ti69 := ⟨Try.underlying69, ⟨Try.t69, _, by kernel_rfl, rfl, rfl, rfl, rfl⟩, rfl, rfl, by decide, by decide⟩
theorem tiok70 : TIOk Try.prog 70 ti70 := ⟨Try.underlying70, ⟨Try.t70, _, by kernel_rfl, rfl, rfl, rfl, rfl⟩, rfl, rfl, by decide, by decide⟩
theorem tabOk : TabOk Try.prog tab := by
  intro t x h
  unfold tab at h
  split at h
  · cases h; exact tiok2
  · cases h; exact tiok3
  · cases h; exact tiok4
  · cases h; exact tiok5
  · cases h; exact tiok6
  · cases h; exact tiok7
  · cases h; exact tiok8
  · cases h; exact tiok9
  · cases h; exact tiok10
  · cases h; exact tiok11
  · cases h; exact tiok12
  · cases h; exact tiok13
  · cases h; exact tiok14
  · cases h; exact tiok15
  · cases h; exact tiok16
  · cases h; exact tiok17
  · cases h; exact tiok18
  · cases h; exact tiok19
  · cases h; exact tiok21
  · cases h; exact tiok22
  · cases h; exact tiok23
  · cases h; exact tiok24
  · cases h; exact tiok35
  · cases h; exact tiok42
  · cases h; exact tiok43
  · cases h; exact tiok46
  · cases h; exact tiok48
  · cases h; exact tiok49
  · cases h; exact tiok50
  · cases h; exact tiok57
  · cases h; exact tiok58
  · cases h; exact tiok59
  · cases h; exact tiok64
  · cases h; exact tiok65
  · cases h; exact tiok66
  · cases h; exact tiok68
  · cases h; exact tiok69
  · cases h; exact tiok70
  · cases h
end Go.Proofs.Ytlkfibmjdigmiaa
