/- The types of this seat, as Ab's table. Printed by gentab2.py. -/
import Derived.Test.YtlkfibmjdigmiabProg
import Derived.Test.YtlkfibmjdigmiabAbU
namespace Go.Proofs.Ytlkfibmjdigmiab
open Go Go.Ab Go.RowKit
set_option linter.unusedVariables false

abbrev ti2 : TI := ⟨.int .i64, 1, 8, [.d (.i 0)]⟩
abbrev ti3 : TI := ⟨.int .i64, 1, 8, [.d (.i 0)]⟩
abbrev ti4 : TI := ⟨.bool, 1, 1, [.d (.b false)]⟩
abbrev ti5 : TI := ⟨.int .u8, 1, 1, [.d (.u 0)]⟩
abbrev ti6 : TI := ⟨.int .u8, 1, 1, [.d (.u 0)]⟩
abbrev ti7 : TI := ⟨.st [(0, 2), (1, 3), (2, 4), (3, 6)], 4, 24, [.d (.i 0), .d (.i 0), .d (.b false), .d (.u 0)]⟩
abbrev ti8 : TI := ⟨.st [(0, 2), (1, 3), (2, 4), (3, 6)], 4, 24, [.d (.i 0), .d (.i 0), .d (.b false), .d (.u 0)]⟩
abbrev ti9 : TI := ⟨.str, 1, 16, [.d (.s [])]⟩
abbrev ti10 : TI := ⟨.str, 1, 16, [.d (.s [])]⟩
abbrev ti11 : TI := ⟨.str, 1, 16, [.d (.s [])]⟩
abbrev ti12 : TI := ⟨.int .u64, 1, 8, [.d (.x (.int .u64 0))]⟩
abbrev ti13 : TI := ⟨.st [(0, 9), (1, 12)], 2, 24, [.d (.s []), .d (.x (.int .u64 0))]⟩
abbrev ti14 : TI := ⟨.st [(0, 9), (1, 12)], 2, 24, [.d (.s []), .d (.x (.int .u64 0))]⟩
abbrev ti15 : TI := ⟨.ptr 79, 1, 8, [.d (.x (.pointer none))]⟩
abbrev ti16 : TI := ⟨.ptr 82, 1, 8, [.d (.x (.pointer none))]⟩
abbrev ti17 : TI := ⟨.ptr 92, 1, 8, [.d (.x (.pointer none))]⟩
abbrev ti18 : TI := ⟨.st [(0, 17)], 1, 8, [.d (.x (.pointer none))]⟩
abbrev ti19 : TI := ⟨.st [(0, 17)], 1, 8, [.d (.x (.pointer none))]⟩
abbrev ti21 : TI := ⟨.int .i32, 1, 4, [.d (.x (.int .i32 0))]⟩
abbrev ti22 : TI := ⟨.sl 36, 1, 24, [.nil]⟩
abbrev ti23 : TI := ⟨.sl 4, 1, 24, [.nil]⟩
abbrev ti24 : TI := ⟨.sl 52, 1, 24, [.nil]⟩
abbrev ti25 : TI := ⟨.sl 55, 1, 24, [.nil]⟩
abbrev ti26 : TI := ⟨.st [(0, 3), (1, 22), (2, 23), (3, 24), (4, 25), (5, 25)], 6, 128, [.d (.i 0), .nil, .nil, .nil, .nil, .nil]⟩
abbrev ti27 : TI := ⟨.st [(0, 3), (1, 22), (2, 23), (3, 24), (4, 25), (5, 25)], 6, 128, [.d (.i 0), .nil, .nil, .nil, .nil, .nil]⟩
abbrev ti32 : TI := ⟨.st [(0, 9), (1, 3)], 2, 24, [.d (.s []), .d (.i 0)]⟩
abbrev ti33 : TI := ⟨.st [(0, 9), (1, 3)], 2, 24, [.d (.s []), .d (.i 0)]⟩
abbrev ti34 : TI := ⟨.sl 66, 1, 24, [.nil]⟩
abbrev ti35 : TI := ⟨.st [(0, 3), (1, 4), (2, 33), (4, 34)], 5, 64, [.d (.i 0), .d (.b false), .d (.s []), .d (.i 0), .nil]⟩
abbrev ti36 : TI := ⟨.st [(0, 3), (1, 4), (2, 33), (4, 34)], 5, 64, [.d (.i 0), .d (.b false), .d (.s []), .d (.i 0), .nil]⟩
abbrev ti51 : TI := ⟨.st [(0, 3), (1, 3), (2, 9), (3, 4)], 4, 40, [.d (.i 0), .d (.i 0), .d (.s []), .d (.b false)]⟩
abbrev ti52 : TI := ⟨.st [(0, 3), (1, 3), (2, 9), (3, 4)], 4, 40, [.d (.i 0), .d (.i 0), .d (.s []), .d (.b false)]⟩
abbrev ti54 : TI := ⟨.st [(0, 3), (1, 3), (2, 3), (3, 3), (4, 9)], 5, 48, [.d (.i 0), .d (.i 0), .d (.i 0), .d (.i 0), .d (.s [])]⟩
abbrev ti55 : TI := ⟨.st [(0, 3), (1, 3), (2, 3), (3, 3), (4, 9)], 5, 48, [.d (.i 0), .d (.i 0), .d (.i 0), .d (.i 0), .d (.s [])]⟩
abbrev ti64 : TI := ⟨.sl 69, 1, 24, [.nil]⟩
abbrev ti65 : TI := ⟨.st [(0, 3), (1, 3), (2, 3), (3, 3), (4, 3), (5, 64)], 6, 64, [.d (.i 0), .d (.i 0), .d (.i 0), .d (.i 0), .d (.i 0), .nil]⟩
abbrev ti66 : TI := ⟨.st [(0, 3), (1, 3), (2, 3), (3, 3), (4, 3), (5, 64)], 6, 64, [.d (.i 0), .d (.i 0), .d (.i 0), .d (.i 0), .d (.i 0), .nil]⟩
abbrev ti68 : TI := ⟨.st [(0, 3), (1, 9)], 2, 24, [.d (.i 0), .d (.s [])]⟩
abbrev ti69 : TI := ⟨.st [(0, 3), (1, 9)], 2, 24, [.d (.i 0), .d (.s [])]⟩
abbrev ti72 : TI := ⟨.sl 5, 1, 24, [.nil]⟩
abbrev ti78 : TI := ⟨.st [(0, 17), (1, 17), (2, 17), (3, 9)], 4, 40, [.d (.x (.pointer none)), .d (.x (.pointer none)), .d (.x (.pointer none)), .d (.s [])]⟩
abbrev ti79 : TI := ⟨.st [(0, 17), (1, 17), (2, 17), (3, 9)], 4, 40, [.d (.x (.pointer none)), .d (.x (.pointer none)), .d (.x (.pointer none)), .d (.s [])]⟩
abbrev ti84 : TI := ⟨.int .u32, 1, 4, [.d (.x (.int .u32 0))]⟩
abbrev ti85 : TI := ⟨.int .u8, 1, 1, [.d (.u 0)]⟩
abbrev ti86 : TI := ⟨.int .u8, 1, 1, [.d (.u 0)]⟩
abbrev ti88 : TI := ⟨.ptr 5, 1, 8, [.d (.x (.pointer none))]⟩
abbrev ti89 : TI := ⟨.int .i32, 1, 4, [.d (.x (.int .i32 0))]⟩
abbrev ti90 : TI := ⟨.int .i32, 1, 4, [.d (.x (.int .i32 0))]⟩
def tab : Tab := fun t => match t with
  | 2 => some ti2
  | 3 => some ti3
  | 4 => some ti4
  | 5 => some ti5
  | 6 => some ti6
  | 7 => some ti7
  | 8 => some ti8
  | 9 => some ti9
  | 10 => some ti10
  | 11 => some ti11
  | 12 => some ti12
  | 13 => some ti13
  | 14 => some ti14
  | 15 => some ti15
  | 16 => some ti16
  | 17 => some ti17
  | 18 => some ti18
  | 19 => some ti19
  | 21 => some ti21
  | 22 => some ti22
  | 23 => some ti23
  | 24 => some ti24
  | 25 => some ti25
  | 26 => some ti26
  | 27 => some ti27
  | 32 => some ti32
  | 33 => some ti33
  | 34 => some ti34
  | 35 => some ti35
  | 36 => some ti36
  | 51 => some ti51
  | 52 => some ti52
  | 54 => some ti54
  | 55 => some ti55
  | 64 => some ti64
  | 65 => some ti65
  | 66 => some ti66
  | 68 => some ti68
  | 69 => some ti69
  | 72 => some ti72
  | 78 => some ti78
  | 79 => some ti79
  | 84 => some ti84
  | 85 => some ti85
  | 86 => some ti86
  | 88 => some ti88
  | 89 => some ti89
  | 90 => some ti90
  | _ => none
theorem tiok2 : TIOk Try.prog 2 ti2 := ⟨Try.underlying2, ⟨Try.t2, _, by kernel_rfl, rfl, rfl, rfl, rfl⟩, rfl, rfl, by decide, by decide⟩
theorem tiok3 : TIOk Try.prog 3 ti3 := ⟨Try.underlying3, ⟨Try.t3, _, by kernel_rfl, rfl, rfl, rfl, rfl⟩, rfl, rfl, by decide, by decide⟩
theorem tiok4 : TIOk Try.prog 4 ti4 := ⟨Try.underlying4, ⟨Try.t4, _, by kernel_rfl, rfl, rfl, rfl, rfl⟩, rfl, rfl, by decide, by decide⟩
theorem tiok5 : TIOk Try.prog 5 ti5 := ⟨Try.underlying5, ⟨Try.t5, _, by kernel_rfl, rfl, rfl, rfl, rfl⟩, rfl, rfl, by decide, by decide⟩
theorem tiok6 : TIOk Try.prog 6 ti6 := ⟨Try.underlying6, ⟨Try.t6, _, by kernel_rfl, rfl, rfl, rfl, rfl⟩, rfl, rfl, by decide, by decide⟩
theorem tiok7 : TIOk Try.prog 7 ti7 := ⟨⟨_, Try.underlying7, rfl⟩, ⟨Try.t7, _, by kernel_rfl, rfl, rfl, rfl, rfl⟩, rfl, rfl, by decide, by decide⟩
theorem tiok8 : TIOk Try.prog 8 ti8 := ⟨⟨_, Try.underlying8, rfl⟩, ⟨Try.t8, _, by kernel_rfl, rfl, rfl, rfl, rfl⟩, rfl, rfl, by decide, by decide⟩
theorem tiok9 : TIOk Try.prog 9 ti9 := ⟨Try.underlying9, ⟨Try.t9, _, by kernel_rfl, rfl, rfl, rfl, rfl⟩, rfl, rfl, by decide, by decide⟩
theorem tiok10 : TIOk Try.prog 10 ti10 := ⟨Try.underlying10, ⟨Try.t10, _, by kernel_rfl, rfl, rfl, rfl, rfl⟩, rfl, rfl, by decide, by decide⟩
theorem tiok11 : TIOk Try.prog 11 ti11 := ⟨Try.underlying11, ⟨Try.t11, _, by kernel_rfl, rfl, rfl, rfl, rfl⟩, rfl, rfl, by decide, by decide⟩
theorem tiok12 : TIOk Try.prog 12 ti12 := ⟨Try.underlying12, ⟨Try.t12, _, by kernel_rfl, rfl, rfl, rfl, rfl⟩, rfl, rfl, by decide, by decide⟩
theorem tiok13 : TIOk Try.prog 13 ti13 := ⟨⟨_, Try.underlying13, rfl⟩, ⟨Try.t13, _, by kernel_rfl, rfl, rfl, rfl, rfl⟩, rfl, rfl, by decide, by decide⟩
theorem tiok14 : TIOk Try.prog 14 ti14 := ⟨⟨_, Try.underlying14, rfl⟩, ⟨Try.t14, _, by kernel_rfl, rfl, rfl, rfl, rfl⟩, rfl, rfl, by decide, by decide⟩
theorem tiok15 : TIOk Try.prog 15 ti15 := ⟨Try.underlying15, ⟨Try.t15, _, by kernel_rfl, rfl, rfl, rfl, rfl⟩, rfl, rfl, by decide, by decide⟩
theorem tiok16 : TIOk Try.prog 16 ti16 := ⟨Try.underlying16, ⟨Try.t16, _, by kernel_rfl, rfl, rfl, rfl, rfl⟩, rfl, rfl, by decide, by decide⟩
theorem tiok17 : TIOk Try.prog 17 ti17 := ⟨Try.underlying17, ⟨Try.t17, _, by kernel_rfl, rfl, rfl, rfl, rfl⟩, rfl, rfl, by decide, by decide⟩
theorem tiok18 : TIOk Try.prog 18 ti18 := ⟨⟨_, Try.underlying18, rfl⟩, ⟨Try.t18, _, by kernel_rfl, rfl, rfl, rfl, rfl⟩, rfl, rfl, by decide, by decide⟩
theorem tiok19 : TIOk Try.prog 19 ti19 := ⟨⟨_, Try.underlying19, rfl⟩, ⟨Try.t19, _, by kernel_rfl, rfl, rfl, rfl, rfl⟩, rfl, rfl, by decide, by decide⟩
theorem tiok21 : TIOk Try.prog 21 ti21 := ⟨Try.underlying21, ⟨Try.t21, _, by kernel_rfl, rfl, rfl, rfl, rfl⟩, rfl, rfl, by decide, by decide⟩
theorem tiok22 : TIOk Try.prog 22 ti22 := ⟨Try.underlying22, ⟨Try.t22, _, by kernel_rfl, rfl, rfl, rfl, rfl⟩, rfl, rfl, by decide, by decide⟩
theorem tiok23 : TIOk Try.prog 23 ti23 := ⟨Try.underlying23, ⟨Try.t23, _, by kernel_rfl, rfl, rfl, rfl, rfl⟩, rfl, rfl, by decide, by decide⟩
theorem tiok24 : TIOk Try.prog 24 ti24 := ⟨Try.underlying24, ⟨Try.t24, _, by kernel_rfl, rfl, rfl, rfl, rfl⟩, rfl, rfl, by decide, by decide⟩
theorem tiok25 : TIOk Try.prog 25 ti25 := ⟨Try.underlying25, ⟨Try.t25, _, by kernel_rfl, rfl, rfl, rfl, rfl⟩, rfl, rfl, by decide, by decide⟩
theorem tiok26 : TIOk Try.prog 26 ti26 := ⟨⟨_, Try.underlying26, rfl⟩, ⟨Try.t26, _, by kernel_rfl, rfl, rfl, rfl, rfl⟩, rfl, rfl, by decide, by decide⟩
theorem tiok27 : TIOk Try.prog 27 ti27 := ⟨⟨_, Try.underlying27, rfl⟩, ⟨Try.t27, _, by kernel_rfl, rfl, rfl, rfl, rfl⟩, rfl, rfl, by decide, by decide⟩
theorem tiok32 : TIOk Try.prog 32 ti32 := ⟨⟨_, Try.underlying32, rfl⟩, ⟨Try.t32, _, by kernel_rfl, rfl, rfl, rfl, rfl⟩, rfl, rfl, by decide, by decide⟩
theorem tiok33 : TIOk Try.prog 33 ti33 := ⟨⟨_, Try.underlying33, rfl⟩, ⟨Try.t33, _, by kernel_rfl, rfl, rfl, rfl, rfl⟩, rfl, rfl, by decide, by decide⟩
theorem tiok34 : TIOk Try.prog 34 ti34 := ⟨Try.underlying34, ⟨Try.t34, _, by kernel_rfl, rfl, rfl, rfl, rfl⟩, rfl, rfl, by decide, by decide⟩
theorem tiok35 : TIOk Try.prog 35 ti35 := ⟨⟨_, Try.underlying35, rfl⟩, ⟨Try.t35, _, by kernel_rfl, rfl, rfl, rfl, rfl⟩, rfl, rfl, by decide, by decide⟩
theorem tiok36 : TIOk Try.prog 36 ti36 := ⟨⟨_, Try.underlying36, rfl⟩, ⟨Try.t36, _, by kernel_rfl, rfl, rfl, rfl, rfl⟩, rfl, rfl, by decide, by decide⟩
theorem tiok51 : TIOk Try.prog 51 ti51 := ⟨⟨_, Try.underlying51, rfl⟩, ⟨Try.t51, _, by kernel_rfl, rfl, rfl, rfl, rfl⟩, rfl, rfl, by decide, by decide⟩
theorem tiok52 : TIOk Try.prog 52 ti52 := ⟨⟨_, Try.underlying52, rfl⟩, ⟨Try.t52, _, by kernel_rfl, rfl, rfl, rfl, rfl⟩, rfl, rfl, by decide, by decide⟩
theorem tiok54 : TIOk Try.prog 54 ti54 := ⟨⟨_, Try.underlying54, rfl⟩, ⟨Try.t54, _, by kernel_rfl, rfl, rfl, rfl, rfl⟩, rfl, rfl, by decide, by decide⟩
theorem tiok55 : TIOk Try.prog 55 ti55 := ⟨⟨_, Try.underlying55, rfl⟩, ⟨Try.t55, _, by kernel_rfl, rfl, rfl, rfl, rfl⟩, rfl, rfl, by decide, by decide⟩
theorem tiok64 : TIOk Try.prog 64 ti64 := ⟨Try.underlying64, ⟨Try.t64, _, by kernel_rfl, rfl, rfl, rfl, rfl⟩, rfl, rfl, by decide, by decide⟩
theorem tiok65 : TIOk Try.prog 65 ti65 := ⟨⟨_, Try.underlying65, rfl⟩, ⟨Try.t65, _, by kernel_rfl, rfl, rfl, rfl, rfl⟩, rfl, rfl, by decide, by decide⟩
theorem tiok66 : TIOk Try.prog 66 ti66 := ⟨⟨_, Try.underlying66, rfl⟩, ⟨Try.t66, _, by kernel_rfl, rfl, rfl, rfl, rfl⟩, rfl, rfl, by decide, by decide⟩
theorem tiok68 : TIOk Try.prog 68 ti68 := ⟨⟨_, Try.underlying68, rfl⟩, ⟨Try.t68, _, by kernel_rfl, rfl, rfl, rfl, rfl⟩, rfl, rfl, by decide, by decide⟩
theorem tiok69 : TIOk Try.prog 69 ti69 := ⟨⟨_, Try.underlying69, rfl⟩, ⟨Try.t69, _, by kernel_rfl, rfl, rfl, rfl, rfl⟩, rfl, rfl, by decide, by decide⟩
theorem tiok72 : TIOk Try.prog 72 ti72 := ⟨Try.underlying72, ⟨Try.t72, _, by kernel_rfl, rfl, rfl, rfl, rfl⟩, rfl, rfl, by decide, by decide⟩
theorem tiok78 : TIOk Try.prog 78 ti78 := ⟨⟨_, Try.underlying78, rfl⟩, ⟨Try.t78, _, by kernel_rfl, rfl, rfl, rfl, rfl⟩, rfl, rfl, by decide, by decide⟩
theorem tiok79 : TIOk Try.prog 79 ti79 := ⟨⟨_, Try.underlying79, rfl⟩, ⟨Try.t79, _, by kernel_rfl, rfl, rfl, rfl, rfl⟩, rfl, rfl, by decide, by decide⟩
theorem tiok84 : TIOk Try.prog 84 ti84 := ⟨Try.underlying84, ⟨Try.t84, _, by kernel_rfl, rfl, rfl, rfl, rfl⟩, rfl, rfl, by decide, by decide⟩
theorem tiok85 : TIOk Try.prog 85 ti85 := ⟨Try.underlying85, ⟨Try.t85, _, by kernel_rfl, rfl, rfl, rfl, rfl⟩, rfl, rfl, by decide, by decide⟩
theorem tiok86 : TIOk Try.prog 86 ti86 := ⟨Try.underlying86, ⟨Try.t86, _, by kernel_rfl, rfl, rfl, rfl, rfl⟩, rfl, rfl, by decide, by decide⟩
theorem tiok88 : TIOk Try.prog 88 ti88 := ⟨Try.underlying88, ⟨Try.t88, _, by kernel_rfl, rfl, rfl, rfl, rfl⟩, rfl, rfl, by decide, by decide⟩
theorem tiok89 : TIOk Try.prog 89 ti89 := ⟨Try.underlying89, ⟨Try.t89, _, by kernel_rfl, rfl, rfl, rfl, rfl⟩, rfl, rfl, by decide, by decide⟩
theorem tiok90 : TIOk Try.prog 90 ti90 := ⟨Try.underlying90, ⟨Try.t90, _, by kernel_rfl, rfl, rfl, rfl, rfl⟩, rfl, rfl, by decide, by decide⟩
theorem tabOk : TabOk Try.prog tab := by
  intro t x h
  unfold tab at h
  split at h
  · cases h; exact tiok2
  · cases h; exact tiok3
  · cases h; exact tiok4
  · cases h; exact tiok5
  · cases h; exact tiok6
  · cases h; exact tiok7
  · cases h; exact tiok8
  · cases h; exact tiok9
  · cases h; exact tiok10
  · cases h; exact tiok11
  · cases h; exact tiok12
  · cases h; exact tiok13
  · cases h; exact tiok14
  · cases h; exact tiok15
  · cases h; exact tiok16
  · cases h; exact tiok17
  · cases h; exact tiok18
  · cases h; exact tiok19
  · cases h; exact tiok21
  · cases h; exact tiok22
  · cases h; exact tiok23
  · cases h; exact tiok24
  · cases h; exact tiok25
  · cases h; exact tiok26
  · cases h; exact tiok27
  · cases h; exact tiok32
  · cases h; exact tiok33
  · cases h; exact tiok34
  · cases h; exact tiok35
  · cases h; exact tiok36
  · cases h; exact tiok51
  · cases h; exact tiok52
  · cases h; exact tiok54
  · cases h; exact tiok55
  · cases h; exact tiok64
  · cases h; exact tiok65
  · cases h; exact tiok66
  · cases h; exact tiok68
  · cases h; exact tiok69
  · cases h; exact tiok72
  · cases h; exact tiok78
  · cases h; exact tiok79
  · cases h; exact tiok84
  · cases h; exact tiok85
  · cases h; exact tiok86
  · cases h; exact tiok88
  · cases h; exact tiok89
  · cases h; exact tiok90
  · cases h
end Go.Proofs.Ytlkfibmjdigmiab
