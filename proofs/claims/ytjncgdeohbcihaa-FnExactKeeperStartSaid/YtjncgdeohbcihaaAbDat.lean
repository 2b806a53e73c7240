/- Plain data and plain functions of the program, with no program in sight. -/
import Derived.Test.YtjncgdeohbcihaaAbZ
namespace Go.Ab
open Go Go.RowKit
set_option linter.unusedVariables false

def inB (n lo hi : Int) : Bool := decide (lo ≤ n) && decide (n ≤ hi)
def isNode (n : Int) : Bool := inB n 0 3
def noteNext (at_ to : Int) : Int := if !isNode at_ || !isNode to || at_ == to then -1 else if at_ < to then at_ + 1 else at_ - 1
theorem wrap64_of {n : Int} (h : -9223372036854775808 ≤ n ∧ n < 9223372036854775808) : wrap64 n = n := by
  unfold wrap64; omega

structure FrameR where
  kind : Int
  src : Int
  dst : Int
  frm : Int
  num : Int
  to : Int
  til : Int
  size : Int
  mix : Int
  data : List UInt8
def FrameR.row (f : FrameR) : List D := [.i f.kind, .i f.src, .i f.dst, .i f.frm, .i f.num, .i f.to, .i f.til, .i f.size, .i f.mix, .s f.data]
abbrev FrameR.V (f : FrameR) : V := .e (.agg [.d (.i f.kind), .d (.i f.src), .d (.i f.dst), .d (.i f.frm), .d (.i f.num), .d (.i f.to), .d (.i f.til), .d (.i f.size), .d (.i f.mix), .d (.s f.data)])
def frameOk (f : FrameR) : Bool :=
  isNode f.src && isNode f.dst && isNode f.frm && isNode f.to && inB f.num 1 99 && inB f.til 1 999 &&
  (if f.kind = 1 then inB f.size 1 24 && inB f.mix 0 999 && decide (f.data.length = 4) && decide (f.dst = noteNext f.src f.to)
   else if f.kind = 2 ∨ f.kind = 3 then decide (f.size = 0) && decide (f.mix = 0) && decide (f.data = []) && decide (f.src = noteNext f.dst f.to) else false)
theorem retOkP {T : Tab} {io : List Nat} {rs : List ResultVar} {s : St} {X Y : V} (h1 : retV T s rs = some X) (hp : plainV Y = true) (e : X = Y) : RetOk T io rs [(.t 0, .v Y)] s := by
  subst e
  exact ⟨X, [], [], h1, ⟨⟨⟨X, rfl, mV_plain hp⟩, trivial⟩, rfl⟩, by simp [retIo, objIds, apartN]; exact fun x _ => .inl rfl⟩
end Go.Ab
