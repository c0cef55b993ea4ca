/- The library's structure for math/bits.Mul, laid at this program's numbers. -/
import Derived.Test.YtbbppknnkghkjaaProg
import Derived.Shelf.Bits.Mul64
namespace Go.Proofs.Ytbbppknnkghkjaa.Fns
open Go.Shelf Go.RowKit
def mulRen : Go.Shelf.Ren := ⟨fun | 212 => 129 | 263 => 148 | 264 => 149 | n => n, fun | 46 => 112 | 51 => 127 | 53 => 129 | 146 => 130 | 148 => 132 | n => n, fun n => n⟩
theorem mulLaid : Lays.n212 Try.prog mulRen where
  mixed := by kernel_rfl
  f212 := Try.func129.trans (congrArg some (by kernel_rfl))
  f263 := Try.func148.trans (congrArg some (by kernel_rfl))
  f264 := Try.func149.trans (congrArg some (by kernel_rfl))
  t46 := Try.underlying112
  a46 := Try.isAgg112
  z46 := Try.sizeOf112
  v46 := Try.zeroValue112
  t51 := Try.underlying127
  a51 := Try.isAgg127
  z51 := Try.sizeOf127
  v51 := Try.zeroValue127
  t53 := Try.underlying129
  a53 := Try.isAgg129
  z53 := Try.sizeOf129
  v53 := Try.zeroValue129
  t146 := Try.underlying130
  a146 := Try.isAgg130
  z146 := Try.sizeOf130
  v146 := Try.zeroValue130
  t148 := Try.underlying132
  a148 := Try.isAgg132
  z148 := Try.sizeOf132
  v148 := Try.zeroValue132
end Go.Proofs.Ytbbppknnkghkjaa.Fns
