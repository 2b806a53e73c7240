/- The types of this seat, as Ab's table. Printed by gentab2.py. -/
import Derived.Test.YtjncgdeohbcihaaProg
import Derived.Test.YtjncgdeohbcihaaAbU
namespace Go.Proofs.Ytjncgdeohbcihaa
open Go Go.Ab Go.RowKit
set_option linter.unusedVariables false

abbrev ti2 : TI := ⟨.int .i64, 1, 8, [.d (.i 0)]⟩
abbrev ti3 : TI := ⟨.int .i64, 1, 8, [.d (.i 0)]⟩
abbrev ti4 : TI := ⟨.bool, 1, 1, [.d (.b false)]⟩
abbrev ti5 : TI := ⟨.int .u8, 1, 1, [.d (.u 0)]⟩
abbrev ti6 : TI := ⟨.int .u8, 1, 1, [.d (.u 0)]⟩
abbrev ti7 : TI := ⟨.st [(0, 2), (1, 3), (2, 4), (3, 6)], 4, 24, [.d (.i 0), .d (.i 0), .d (.b false), .d (.u 0)]⟩
abbrev ti8 : TI := ⟨.st [(0, 2), (1, 3), (2, 4), (3, 6)], 4, 24, [.d (.i 0), .d (.i 0), .d (.b false), .d (.u 0)]⟩
abbrev ti9 : TI := ⟨.str, 1, 16, [.d (.s [])]⟩
abbrev ti10 : TI := ⟨.str, 1, 16, [.d (.s [])]⟩
abbrev ti11 : TI := ⟨.str, 1, 16, [.d (.s [])]⟩
abbrev ti12 : TI := ⟨.int .u64, 1, 8, [.d (.x (.int .u64 0))]⟩
abbrev ti13 : TI := ⟨.st [(0, 9), (1, 12)], 2, 24, [.d (.s []), .d (.x (.int .u64 0))]⟩
abbrev ti14 : TI := ⟨.st [(0, 9), (1, 12)], 2, 24, [.d (.s []), .d (.x (.int .u64 0))]⟩
abbrev ti15 : TI := ⟨.ptr 71, 1, 8, [.d (.x (.pointer none))]⟩
abbrev ti16 : TI := ⟨.ptr 74, 1, 8, [.d (.x (.pointer none))]⟩
abbrev ti17 : TI := ⟨.ptr 84, 1, 8, [.d (.x (.pointer none))]⟩
abbrev ti18 : TI := ⟨.st [(0, 17)], 1, 8, [.d (.x (.pointer none))]⟩
abbrev ti19 : TI := ⟨.st [(0, 17)], 1, 8, [.d (.x (.pointer none))]⟩
abbrev ti21 : TI := ⟨.int .i32, 1, 4, [.d (.x (.int .i32 0))]⟩
abbrev ti22 : TI := ⟨.sl 5, 1, 24, [.nil]⟩
abbrev ti27 : TI := ⟨.st [(0, 3), (1, 3), (2, 3), (3, 3), (4, 3), (5, 3), (6, 3), (7, 3), (8, 3), (9, 9)], 10, 88, [.d (.i 0), .d (.i 0), .d (.i 0), .d (.i 0), .d (.i 0), .d (.i 0), .d (.i 0), .d (.i 0), .d (.i 0), .d (.s [])]⟩
abbrev ti28 : TI := ⟨.st [(0, 3), (1, 3), (2, 3), (3, 3), (4, 3), (5, 3), (6, 3), (7, 3), (8, 3), (9, 9)], 10, 88, [.d (.i 0), .d (.i 0), .d (.i 0), .d (.i 0), .d (.i 0), .d (.i 0), .d (.i 0), .d (.i 0), .d (.i 0), .d (.s [])]⟩
abbrev ti31 : TI := ⟨.st [(0, 3), (1, 3), (2, 3), (3, 3), (4, 3), (5, 3), (6, 3), (7, 3), (8, 3), (9, 9)], 10, 88, [.d (.i 0), .d (.i 0), .d (.i 0), .d (.i 0), .d (.i 0), .d (.i 0), .d (.i 0), .d (.i 0), .d (.i 0), .d (.s [])]⟩
abbrev ti39 : TI := ⟨.st [(0, 9), (1, 3)], 2, 24, [.d (.s []), .d (.i 0)]⟩
abbrev ti40 : TI := ⟨.st [(0, 9), (1, 3)], 2, 24, [.d (.s []), .d (.i 0)]⟩
abbrev ti41 : TI := ⟨.sl 62, 1, 24, [.nil]⟩
abbrev ti42 : TI := ⟨.st [(0, 3), (1, 4), (2, 40), (4, 41)], 5, 64, [.d (.i 0), .d (.b false), .d (.s []), .d (.i 0), .nil]⟩
abbrev ti43 : TI := ⟨.st [(0, 3), (1, 4), (2, 40), (4, 41)], 5, 64, [.d (.i 0), .d (.b false), .d (.s []), .d (.i 0), .nil]⟩
abbrev ti48 : TI := ⟨.ptr 58, 1, 8, [.d (.x (.pointer none))]⟩
abbrev ti57 : TI := ⟨.st [(0, 22), (1, 3)], 2, 32, [.nil, .d (.i 0)]⟩
abbrev ti58 : TI := ⟨.st [(0, 22), (1, 3)], 2, 32, [.nil, .d (.i 0)]⟩
abbrev ti60 : TI := ⟨.sl 66, 1, 24, [.nil]⟩
abbrev ti61 : TI := ⟨.st [(0, 3), (1, 3), (2, 3), (3, 3), (4, 3), (5, 60)], 6, 64, [.d (.i 0), .d (.i 0), .d (.i 0), .d (.i 0), .d (.i 0), .nil]⟩
abbrev ti62 : TI := ⟨.st [(0, 3), (1, 3), (2, 3), (3, 3), (4, 3), (5, 60)], 6, 64, [.d (.i 0), .d (.i 0), .d (.i 0), .d (.i 0), .d (.i 0), .nil]⟩
abbrev ti65 : TI := ⟨.st [(0, 3), (1, 9)], 2, 24, [.d (.i 0), .d (.s [])]⟩
abbrev ti66 : TI := ⟨.st [(0, 3), (1, 9)], 2, 24, [.d (.i 0), .d (.s [])]⟩
abbrev ti70 : TI := ⟨.st [(0, 17), (1, 17), (2, 17), (3, 9)], 4, 40, [.d (.x (.pointer none)), .d (.x (.pointer none)), .d (.x (.pointer none)), .d (.s [])]⟩
abbrev ti71 : TI := ⟨.st [(0, 17), (1, 17), (2, 17), (3, 9)], 4, 40, [.d (.x (.pointer none)), .d (.x (.pointer none)), .d (.x (.pointer none)), .d (.s [])]⟩
abbrev ti76 : TI := ⟨.int .u32, 1, 4, [.d (.x (.int .u32 0))]⟩
abbrev ti77 : TI := ⟨.int .u8, 1, 1, [.d (.u 0)]⟩
abbrev ti78 : TI := ⟨.int .u8, 1, 1, [.d (.u 0)]⟩
abbrev ti80 : TI := ⟨.ptr 5, 1, 8, [.d (.x (.pointer none))]⟩
abbrev ti81 : TI := ⟨.int .i32, 1, 4, [.d (.x (.int .i32 0))]⟩
abbrev ti82 : TI := ⟨.int .i32, 1, 4, [.d (.x (.int .i32 0))]⟩
def tab : Tab := fun t => match t with
  | 2 => some ti2
  | 3 => some ti3
  | 4 => some ti4
  | 5 => some ti5
  | 6 => some ti6
  | 7 => some ti7
  | 8 => some ti8
  | 9 => some ti9
  | 10 => some ti10
  | 11 => some ti11
  | 12 => some ti12
  | 13 => some ti13
  | 14 => some ti14
  | 15 => some ti15
  | 16 => some ti16
  | 17 => some ti17
  | 18 => some ti18
  | 19 => some ti19
  | 21 => some ti21
  | 22 => some ti22
  | 27 => some ti27
  | 28 => some ti28
  | 31 => some ti31
  | 39 => some ti39
  | 40 => some ti40
  | 41 => some ti41
  | 42 => some ti42
  | 43 => some ti43
  | 48 => some ti48
  | 57 => some ti57
  | 58 => some ti58
  | 60 => some ti60
  | 61 => some ti61
  | 62 => some ti62
  | 65 => some ti65
  | 66 => some ti66
  | 70 => some ti70
  | 71 => some ti71
  | 76 => some ti76
  | 77 => some ti77
  | 78 => some ti78
  | 80 => some ti80
  | 81 => some ti81
  | 82 => some ti82
  | _ => none
theorem tiok2 : TIOk Try.prog 2 ti2 := ⟨Try.underlying2, ⟨Try.t2, _, by kernel_rfl, rfl, rfl, rfl, rfl⟩, rfl, rfl, by decide, by decide⟩
theorem tiok3 : TIOk Try.prog 3 ti3 := ⟨Try.underlying3, ⟨Try.t3, _, by kernel_rfl, rfl, rfl, rfl, rfl⟩, rfl, rfl, by decide, by decide⟩
theorem tiok4 : TIOk Try.prog 4 ti4 := ⟨Try.underlying4, ⟨Try.t4, _, by kernel_rfl, rfl, rfl, rfl, rfl⟩, rfl, rfl, by decide, by decide⟩
theorem tiok5 : TIOk Try.prog 5 ti5 := ⟨Try.underlying5, ⟨Try.t5, _, by kernel_rfl, rfl, rfl, rfl, rfl⟩, rfl, rfl, by decide, by decide⟩
theorem tiok6 : TIOk Try.prog 6 ti6 := ⟨Try.underlying6, ⟨Try.t6, _, by kernel_rfl, rfl, rfl, rfl, rfl⟩, rfl, rfl, by decide, by decide⟩
theorem tiok7 : TIOk Try.prog 7 ti7 := ⟨⟨_, Try.underlying7, rfl⟩, ⟨Try.t7, _, by kernel_rfl, rfl, rfl, rfl, rfl⟩, rfl, rfl, by decide, by decide⟩
theorem tiok8 : TIOk Try.prog 8 ti8 := ⟨⟨_, Try.underlying8, rfl⟩, ⟨Try.t8, _, by kernel_rfl, rfl, rfl, rfl, rfl⟩, rfl, rfl, by decide, by decide⟩
theorem tiok9 : TIOk Try.prog 9 ti9 := ⟨Try.underlying9, ⟨Try.t9, _, by kernel_rfl, rfl, rfl, rfl, rfl⟩, rfl, rfl, by decide, by decide⟩
theorem tiok10 : TIOk Try.prog 10 ti10 := ⟨Try.underlying10, ⟨Try.t10, _, by kernel_rfl, rfl, rfl, rfl, rfl⟩, rfl, rfl, by decide, by decide⟩
theorem tiok11 : TIOk Try.prog 11 ti11 := ⟨Try.underlying11, ⟨Try.t11, _, by kernel_rfl, rfl, rfl, rfl, rfl⟩, rfl, rfl, by decide, by decide⟩
theorem tiok12 : TIOk Try.prog 12 ti12 := ⟨Try.underlying12, ⟨Try.t12, _, by kernel_rfl, rfl, rfl, rfl, rfl⟩, rfl, rfl, by decide, by decide⟩
theorem tiok13 : TIOk Try.prog 13 ti13 := ⟨⟨_, Try.underlying13, rfl⟩, ⟨Try.t13, _, by kernel_rfl, rfl, rfl, rfl, rfl⟩, rfl, rfl, by decide, by decide⟩
theorem tiok14 : TIOk Try.prog 14 ti14 := ⟨⟨_, Try.underlying14, rfl⟩, ⟨Try.t14, _, by kernel_rfl, rfl, rfl, rfl, rfl⟩, rfl, rfl, by decide, by decide⟩
theorem tiok15 : TIOk Try.prog 15 ti15 := ⟨Try.underlying15, ⟨Try.t15, _, by kernel_rfl, rfl, rfl, rfl, rfl⟩, rfl, rfl, by decide, by decide⟩
theorem tiok16 : TIOk Try.prog 16 ti16 := ⟨Try.underlying16, ⟨Try.t16, _, by kernel_rfl, rfl, rfl, rfl, rfl⟩, rfl, rfl, by decide, by decide⟩
theorem tiok17 : TIOk Try.prog 17 ti17 := ⟨Try.underlying17, ⟨Try.t17, _, by kernel_rfl, rfl, rfl, rfl, rfl⟩, rfl, rfl, by decide, by decide⟩
theorem tiok18 : TIOk Try.prog 18 ti18 := ⟨⟨_, Try.underlying18, rfl⟩, ⟨Try.t18, _, by kernel_rfl, rfl, rfl, rfl, rfl⟩, rfl, rfl, by decide, by decide⟩
theorem tiok19 : TIOk Try.prog 19 ti19 := ⟨⟨_, Try.underlying19, rfl⟩, ⟨Try.t19, _, by kernel_rfl, rfl, rfl, rfl, rfl⟩, rfl, rfl, by decide, by decide⟩
theorem tiok21 : TIOk Try.prog 21 ti21 := ⟨Try.underlying21, ⟨Try.t21, _, by kernel_rfl, rfl, rfl, rfl, rfl⟩, rfl, rfl, by decide, by decide⟩
theorem tiok22 : TIOk Try.prog 22 ti22 := ⟨Try.underlying22, ⟨Try.t22, _, by kernel_rfl, rfl, rfl, rfl, rfl⟩, rfl, rfl, by decide, by decide⟩
theorem tiok27 : TIOk Try.prog 27 ti27 := ⟨⟨_, Try.underlying27, rfl⟩, ⟨Try.t27, _, by kernel_rfl, rfl, rfl, rfl, rfl⟩, rfl, rfl, by decide, by decide⟩
theorem tiok28 : TIOk Try.prog 28 ti28 := ⟨⟨_, Try.underlying28, rfl⟩, ⟨Try.t28, _, by kernel_rfl, rfl, rfl, rfl, rfl⟩, rfl, rfl, by decide, by decide⟩
theorem tiok31 : TIOk Try.prog 31 ti31 := ⟨⟨_, Try.underlying31, rfl⟩, ⟨Try.t31, _, by kernel_rfl, rfl, rfl, rfl, rfl⟩, rfl, rfl, by decide, by decide⟩
theorem tiok39 : TIOk Try.prog 39 ti39 := ⟨⟨_, Try.underlying39, rfl⟩, ⟨Try.t39, _, by kernel_rfl, rfl, rfl, rfl, rfl⟩, rfl, rfl, by decide, by decide⟩
theorem tiok40 : TIOk Try.prog 40 ti40 := ⟨⟨_, Try.underlying40, rfl⟩, ⟨Try.t40, _, by kernel_rfl, rfl, rfl, rfl, rfl⟩, rfl, rfl, by decide, by decide⟩
theorem tiok41 : TIOk Try.prog 41 ti41 := ⟨Try.underlying41, ⟨Try.t41, _, by kernel_rfl, rfl, rfl, rfl, rfl⟩, rfl, rfl, by decide, by decide⟩
theorem tiok42 : TIOk Try.prog 42 ti42 := ⟨⟨_, Try.underlying42, rfl⟩, ⟨Try.t42, _, by kernel_rfl, rfl, rfl, rfl, rfl⟩, rfl, rfl, by decide, by decide⟩
theorem tiok43 : TIOk Try.prog 43 ti43 := ⟨⟨_, Try.underlying43, rfl⟩, ⟨Try.t43, _, by kernel_rfl, rfl, rfl, rfl, rfl⟩, rfl, rfl, by decide, by decide⟩
theorem tiok48 : TIOk Try.prog 48 ti48 := ⟨Try.underlying48, ⟨Try.t48, _, by kernel_rfl, rfl, rfl, rfl, rfl⟩, rfl, rfl, by decide, by decide⟩
theorem tiok57 : TIOk Try.prog 57 ti57 := ⟨⟨_, Try.underlying57, rfl⟩, ⟨Try.t57, _, by kernel_rfl, rfl, rfl, rfl, rfl⟩, rfl, rfl, by decide, by decide⟩
theorem tiok58 : TIOk Try.prog 58 ti58 := ⟨⟨_, Try.underlying58, rfl⟩, ⟨Try.t58, _, by kernel_rfl, rfl, rfl, rfl, rfl⟩, rfl, rfl, by decide, by decide⟩
theorem tiok60 : TIOk Try.prog 60 ti60 := ⟨Try.underlying60, ⟨Try.t60, _, by kernel_rfl, rfl, rfl, rfl, rfl⟩, rfl, rfl, by decide, by decide⟩
theorem tiok61 : TIOk Try.prog 61 ti61 := ⟨⟨_, Try.underlying61, rfl⟩, ⟨Try.t61, _, by kernel_rfl, rfl, rfl, rfl, rfl⟩, rfl, rfl, by decide, by decide⟩
theorem tiok62 : TIOk Try.prog 62 ti62 := ⟨⟨_, Try.underlying62, rfl⟩, ⟨Try.t62, _, by kernel_rfl, rfl, rfl, rfl, rfl⟩, rfl, rfl, by decide, by decide⟩
theorem tiok65 : TIOk Try.prog 65 ti65 := ⟨⟨_, Try.underlying65, rfl⟩, ⟨Try.t65, _, by kernel_rfl, rfl, rfl, rfl, rfl⟩, rfl, rfl, by decide, by decide⟩
theorem tiok66 : TIOk Try.prog 66 ti66 := ⟨⟨_, Try.underlying66, rfl⟩, ⟨Try.t66, _, by kernel_rfl, rfl, rfl, rfl, rfl⟩, rfl, rfl, by decide, by decide⟩
theorem tiok70 : TIOk Try.prog 70 ti70 := ⟨⟨_, Try.underlying70, rfl⟩, ⟨Try.t70, _, by kernel_rfl, rfl, rfl, rfl, rfl⟩, rfl, rfl, by decide, by decide⟩
theorem tiok71 : TIOk Try.prog 71 ti71 := ⟨⟨_, Try.underlying71, rfl⟩, ⟨Try.t71, _, by kernel_rfl, rfl, rfl, rfl, rfl⟩, rfl, rfl, by decide, by decide⟩
theorem tiok76 : TIOk Try.prog 76 ti76 := ⟨Try.underlying76, ⟨Try.t76, _, by kernel_rfl, rfl, rfl, rfl, rfl⟩, rfl, rfl, by decide, by decide⟩
theorem tiok77 : TIOk Try.prog 77 ti77 := ⟨Try.underlying77, ⟨Try.t77, _, by kernel_rfl, rfl, rfl, rfl, rfl⟩, rfl, rfl, by decide, by decide⟩
theorem tiok78 : TIOk Try.prog 78 ti78 := ⟨Try.underlying78, ⟨Try.t78, _, by kernel_rfl, rfl, rfl, rfl, rfl⟩, rfl, rfl, by decide, by decide⟩
theorem tiok80 : TIOk Try.prog 80 ti80 := ⟨Try.underlying80, ⟨Try.t80, _, by kernel_rfl, rfl, rfl, rfl, rfl⟩, rfl, rfl, by decide, by decide⟩
theorem tiok81 : TIOk Try.prog 81 ti81 := ⟨Try.underlying81, ⟨Try.t81, _, by kernel_rfl, rfl, rfl, rfl, rfl⟩, rfl, rfl, by decide, by decide⟩
theorem tiok82 : TIOk Try.prog 82 ti82 := ⟨Try.underlying82, ⟨Try.t82, _, by kernel_rfl, rfl, rfl, rfl, rfl⟩, rfl, rfl, by decide, by decide⟩
theorem tabOk : TabOk Try.prog tab := by
  intro t x h
  unfold tab at h
  split at h
  · cases h; exact tiok2
  · cases h; exact tiok3
  · cases h; exact tiok4
  · cases h; exact tiok5
  · cases h; exact tiok6
  · cases h; exact tiok7
  · cases h; exact tiok8
  · cases h; exact tiok9
  · cases h; exact tiok10
  · cases h; exact tiok11
  · cases h; exact tiok12
  · cases h; exact tiok13
  · cases h; exact tiok14
  · cases h; exact tiok15
  · cases h; exact tiok16
  · cases h; exact tiok17
  · cases h; exact tiok18
  · cases h; exact tiok19
  · cases h; exact tiok21
  · cases h; exact tiok22
  · cases h; exact tiok27
  · cases h; exact tiok28
  · cases h; exact tiok31
  · cases h; exact tiok39
  · cases h; exact tiok40
  · cases h; exact tiok41
  · cases h; exact tiok42
  · cases h; exact tiok43
  · cases h; exact tiok48
  · cases h; exact tiok57
  · cases h; exact tiok58
  · cases h; exact tiok60
  · cases h; exact tiok61
  · cases h; exact tiok62
  · cases h; exact tiok65
  · cases h; exact tiok66
  · cases h; exact tiok70
  · cases h; exact tiok71
  · cases h; exact tiok76
  · cases h; exact tiok77
  · cases h; exact tiok78
  · cases h; exact tiok80
  · cases h; exact tiok81
  · cases h; exact tiok82
  · cases h
end Go.Proofs.Ytjncgdeohbcihaa
