/- The small machine's text of functions of the seat. -/
import Derived.Test.YtfjdihfflghfpaaRows
import Derived.Test.YtfjdihfflghfpaaVam25
import Derived.KernelRfl
namespace Go.Proofs.Ytfjdihfflghfpaa
open Go Go.Vam

/-! F18 lookout/sums.Floats -/
def o18_0 : List AOper := [⟨.move (.const (.float .f64 0)), (some 2), none⟩]
def o18_1 : List AOper := [⟨.move (.tmp 0), (some 6), none⟩,
  ⟨.bu .len [(.tmp 6)], (some 7), none⟩,
  ⟨.bin .eql (.tmp 7) (.const (.int .i64 0)), (some 8), none⟩]
def o18_2 : List AOper := [⟨.move (.const (.float .f64 0)), (some 2), none⟩]
def o18_3 : List AOper := [⟨.move (.tmp 0), (some 9), none⟩,
  ⟨.addrSl 1 (.tmp 9) (.const (.int .i64 0)), (some 10), none⟩,
  ⟨.load none (.tmp 10), (some 11), none⟩,
  ⟨.move (.tmp 11), (some 3), none⟩]
def o18_4 : List AOper := [⟨.move (.tmp 0), (some 12), none⟩,
  ⟨.slSl 1 (.tmp 12) (some (.const (.int .i64 1))) none none, (some 13), none⟩,
  ⟨.bu .len [(.tmp 13)], (some 14), none⟩,
  ⟨.move (.const (.int .i64 0)), (some 15), none⟩]
def o18_6 : List AOper := [⟨.bin .lss (.tmp 15) (.tmp 14), (some 16), none⟩]
def o18_7 : List AOper := [⟨.addrSl 1 (.tmp 13) (.tmp 15), (some 17), none⟩,
  ⟨.load none (.tmp 17), (some 18), none⟩,
  ⟨.move (.tmp 18), (some 5), none⟩]
def o18_8 : List AOper := [⟨.move (.tmp 3), (some 19), none⟩,
  ⟨.move (.tmp 5), (some 20), none⟩,
  ⟨.bin .add (.tmp 19) (.tmp 20), (some 21), none⟩,
  ⟨.move (.tmp 21), (some 3), none⟩]
def o18_9 : List AOper := [⟨.bin .add (.tmp 15) (.const (.int .i64 1)), (some 22), none⟩,
  ⟨.move (.tmp 22), (some 15), none⟩]
def b18_5 : ACode := (.seq (.ops o18_6) (.seq (.cond (.tmp 16) .skip (.exit 0)) (.seq (.block 1 (.seq (.ops o18_7) (.ops o18_8))) (.ops o18_9))))
def o18_10 : List AOper := [⟨.move (.tmp 3), (some 23), none⟩,
  ⟨.move (.tmp 23), (some 2), none⟩]
def ir18 : AFn := ⟨24, [.tmp 2], (.seq (.ops o18_0) (.seq (.seq (.ops o18_1) (.cond (.tmp 8) (.seq (.ops o18_2) .ret) .skip)) (.seq (.ops o18_3) (.seq (.seq (.ops o18_4) (.block 0 (.loop b18_5))) (.seq (.ops o18_10) .ret)))))⟩
theorem ir18_eq : fnsOf Try.prog 18 = some ir18 := by kernel_rfl

/-! F20 lookout/sums.Nth -/
def o20_0 : List AOper := [⟨.move (.const (.float .f64 0)), (some 4), none⟩,
  ⟨.move (.const (.int .i64 0)), (some 5), none⟩]
def o20_1 : List AOper := [⟨.move (.tmp 1), (some 7), none⟩,
  ⟨.bin .lss (.tmp 7) (.const (.int .i64 0)), (some 8), none⟩,
  ⟨.move (.tmp 8), (some 9), none⟩,
  ⟨.move (.tmp 1), (some 10), (some (9, false))⟩,
  ⟨.move (.tmp 0), (some 11), (some (9, false))⟩,
  ⟨.bu .len [(.tmp 11)], (some 12), (some (9, false))⟩,
  ⟨.bin .geq (.tmp 10) (.tmp 12), (some 13), (some (9, false))⟩,
  ⟨.pick (.tmp 9) (.const (.bool true)) (.tmp 13), (some 14), none⟩]
def o20_2 : List AOper := [⟨.move (.const (.float .f64 0)), (some 4), none⟩,
  ⟨.move (.const (.int .i64 2)), (some 5), none⟩]
def o20_3 : List AOper := [⟨.move (.tmp 0), (some 15), none⟩,
  ⟨.call (.func 41) [(.tmp 15)], (some 16), none⟩,
  ⟨.move (.tmp 16), (some 6), none⟩]
def o20_4 : List AOper := [⟨.move (.tmp 6), (some 17), none⟩,
  ⟨.call (.func 42) [(.tmp 17), (.func 43)], (some 18), none⟩]
def o20_5 : List AOper := [⟨.move (.tmp 6), (some 19), none⟩,
  ⟨.move (.tmp 1), (some 20), none⟩,
  ⟨.addrSl 1 (.tmp 19) (.tmp 20), (some 21), none⟩,
  ⟨.load none (.tmp 21), (some 22), none⟩,
  ⟨.move (.tmp 22), (some 4), none⟩,
  ⟨.move (.const (.int .i64 0)), (some 5), none⟩]
def ir20 : AFn := ⟨23, [.tmp 4, .tmp 5], (.seq (.ops o20_0) (.seq (.seq (.ops o20_1) (.cond (.tmp 14) (.seq (.ops o20_2) .ret) .skip)) (.seq (.ops o20_3) (.seq (.ops o20_4) (.seq (.ops o20_5) .ret)))))⟩
theorem ir20_eq : fnsOf Try.prog 20 = some ir20 := by kernel_rfl

/-! F51 math.Signbit -/
def o51_0 : List AOper := [⟨.move (.const (.bool false)), (some 2), none⟩]
def o51_1 : List AOper := [⟨.move (.tmp 0), (some 3), none⟩,
  ⟨.ext 0 23 [(.tmp 3)], (some 4), none⟩,
  ⟨.conv (.toInt .i64) (.tmp 4), (some 5), none⟩,
  ⟨.bin .lss (.tmp 5) (.const (.int .i64 0)), (some 6), none⟩,
  ⟨.move (.tmp 6), (some 2), none⟩]
def ir51 : AFn := ⟨7, [.tmp 2], (.seq (.ops o51_0) (.seq (.ops o51_1) .ret))⟩
theorem ir51_eq : fnsOf Try.prog 51 = some ir51 := by kernel_rfl


end Go.Proofs.Ytfjdihfflghfpaa
