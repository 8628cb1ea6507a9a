/- The small machine's text of functions of the seat. -/
import Derived.Test.YtfjdihfflghfpaaRows
import Derived.Test.YtfjdihfflghfpaaVam25
import Derived.KernelRfl
namespace Go.Proofs.Ytfjdihfflghfpaa
open Go Go.Vam

/-! F36 lookout/cfar.looked -/
def o36_0 : List AOper := [⟨.alloc 64 [.nilFunc, (.int .i64 0), (.int .i64 0), (.int .i64 0)], (some 10), none⟩,
  ⟨.move (.const (.int .i64 0)), (some 11), none⟩]
def o36_1 : List AOper := [⟨.move (.tmp 0), (some 14), none⟩,
  ⟨.bu .len [(.tmp 14)], (some 15), none⟩,
  ⟨.bin .gtr (.tmp 15) (.const (.int .i64 16384)), (some 16), none⟩,
  ⟨.move (.tmp 16), (some 13), none⟩]
def o36_2 : List AOper := [⟨.build [.nilFunc, (.int .i64 0), (.int .i64 0), (.int .i64 0)] [], (some 17), none⟩,
  ⟨.store 4 (.tmp 10) (.tmp 17), none, none⟩,
  ⟨.move (.const (.int .i64 3)), (some 11), none⟩]
def o36_3 : List AOper := [⟨.move (.tmp 2), (some 19), none⟩,
  ⟨.bin .lss (.tmp 19) (.const (.int .i64 0)), (some 20), none⟩,
  ⟨.move (.tmp 20), (some 18), none⟩]
def o36_4 : List AOper := [⟨.move (.tmp 2), (some 21), none⟩,
  ⟨.bin .gtr (.tmp 21) (.const (.int .i64 16384)), (some 22), none⟩,
  ⟨.move (.tmp 22), (some 18), none⟩]
def o36_5 : List AOper := [⟨.move (.tmp 3), (some 23), none⟩,
  ⟨.bin .lss (.tmp 23) (.const (.int .i64 1)), (some 24), none⟩,
  ⟨.move (.tmp 24), (some 18), none⟩]
def o36_6 : List AOper := [⟨.move (.tmp 3), (some 25), none⟩,
  ⟨.bin .gtr (.tmp 25) (.const (.int .i64 16384)), (some 26), none⟩,
  ⟨.move (.tmp 26), (some 18), none⟩]
def o36_7 : List AOper := [⟨.move (.tmp 4), (some 27), none⟩,
  ⟨.bin .lss (.tmp 27) (.const (.int .i64 0)), (some 28), none⟩,
  ⟨.move (.tmp 28), (some 18), none⟩]
def o36_8 : List AOper := [⟨.move (.tmp 4), (some 29), none⟩,
  ⟨.bin .gtr (.tmp 29) (.const (.int .i64 32768)), (some 30), none⟩,
  ⟨.move (.tmp 30), (some 18), none⟩]
def o36_9 : List AOper := [⟨.build [.nilFunc, (.int .i64 0), (.int .i64 0), (.int .i64 0)] [], (some 31), none⟩,
  ⟨.store 4 (.tmp 10) (.tmp 31), none, none⟩,
  ⟨.move (.const (.int .i64 2)), (some 11), none⟩]
def o36_10 : List AOper := [⟨.call (.func 57) [], (some 32), none⟩,
  ⟨.alloc 79 [.nilFunc, .nilFunc, .nilFunc, .nilFunc], (some 12), none⟩,
  ⟨.store 4 (.tmp 12) (.tmp 32), none, none⟩]
def o36_11 : List AOper := [⟨.move (.tmp 1), (some 33), none⟩,
  ⟨.bin .lss (.tmp 33) (.const (.int .i8 0)), (some 34), none⟩,
  ⟨.move (.tmp 34), (some 35), none⟩,
  ⟨.move (.tmp 1), (some 36), (some (35, false))⟩,
  ⟨.conv (.toInt .i64) (.tmp 36), (some 37), (some (35, false))⟩,
  ⟨.bin .geq (.tmp 37) (.const (.int .i64 4)), (some 38), (some (35, false))⟩,
  ⟨.pick (.tmp 35) (.const (.bool true)) (.tmp 38), (some 39), none⟩]
def o36_12 : List AOper := [⟨.move (.const (.int .i8 0)), (some 1), none⟩]
def o36_13 : List AOper := [⟨.move (.tmp 1), (some 40), none⟩,
  ⟨.fieldAddr 0 (.tmp 12), (some 41), none⟩,
  ⟨.addrArr 4 1 (.tmp 41) (.tmp 40), (some 42), none⟩,
  ⟨.load none (.tmp 42), (some 43), none⟩,
  ⟨.move (.tmp 2), (some 44), none⟩,
  ⟨.move (.tmp 3), (some 45), none⟩,
  ⟨.move (.tmp 4), (some 46), none⟩,
  ⟨.build [.nilFunc, (.int .i64 0), (.int .i64 0), (.int .i64 0)] [(0, 1, (.tmp 43)), (1, 1, (.tmp 44)), (2, 1, (.tmp 45)), (3, 1, (.tmp 46))], (some 47), none⟩,
  ⟨.store 4 (.tmp 10) (.tmp 47), none, none⟩,
  ⟨.move (.const (.int .i64 0)), (some 11), none⟩]
def ir36 : AFn := ⟨48, [.cell 10 (some 4), .tmp 11], (.seq (.ops o36_0) (.seq (.block 0 (.seq (.ops o36_1) (.cond (.tmp 13) (.seq (.ops o36_2) .ret) (.seq (.seq (.ops o36_3) (.cond (.tmp 18) .skip (.seq (.ops o36_4) (.cond (.tmp 18) .skip (.seq (.ops o36_5) (.cond (.tmp 18) .skip (.seq (.ops o36_6) (.cond (.tmp 18) .skip (.seq (.ops o36_7) (.cond (.tmp 18) .skip (.ops o36_8))))))))))) (.cond (.tmp 18) (.seq (.ops o36_9) .ret) .skip))))) (.seq (.ops o36_10) (.seq (.seq (.ops o36_11) (.cond (.tmp 39) (.ops o36_12) .skip)) (.seq (.ops o36_13) .ret)))))⟩
theorem ir36_eq : fnsOf Try.prog 36 = some ir36 := by kernel_rfl

/-! F37 (lookout/cfar.look).level -/
def o37_0 : List AOper := [⟨.box 64 (.tmp 0), (some 3), none⟩,
  ⟨.box 22 (.tmp 1), (some 4), none⟩,
  ⟨.move (.const (.float .f64 0)), (some 6), none⟩]
def o37_1 : List AOper := [⟨.mkFunc (.func 58) [] [(.tmp 4)], (some 9), none⟩,
  ⟨.move (.tmp 9), (some 7), none⟩]
def d37_2 : List DOper := [⟨⟨.move (.tmp 7), (some 10), none⟩, 0⟩,
  ⟨⟨.move (.tmp 2), (some 11), none⟩, 0⟩,
  ⟨⟨.fieldAddr 1 (.tmp 3), (some 12), none⟩, 0⟩,
  ⟨⟨.load none (.tmp 12), (some 13), none⟩, 4⟩,
  ⟨⟨.bin .sub (.tmp 11) (.tmp 13), (some 14), none⟩, 14⟩,
  ⟨⟨.fieldAddr 2 (.tmp 3), (some 15), none⟩, 0⟩,
  ⟨⟨.load none (.tmp 15), (some 16), none⟩, 32⟩,
  ⟨⟨.bin .sub (.tmp 14) (.tmp 16), (some 17), none⟩, 126⟩,
  ⟨⟨.move (.tmp 2), (some 18), none⟩, 0⟩,
  ⟨⟨.fieldAddr 1 (.tmp 3), (some 19), none⟩, 0⟩,
  ⟨⟨.load none (.tmp 19), (some 20), none⟩, 512⟩,
  ⟨⟨.bin .sub (.tmp 18) (.tmp 20), (some 21), none⟩, 1792⟩,
  ⟨⟨.call (.tmp 10) [(.tmp 17), (.tmp 21)], (some 22), none⟩, 4095⟩,
  ⟨⟨.move (.tmp 7), (some 23), none⟩, 0⟩,
  ⟨⟨.move (.tmp 2), (some 24), none⟩, 0⟩,
  ⟨⟨.fieldAddr 1 (.tmp 3), (some 25), none⟩, 0⟩,
  ⟨⟨.load none (.tmp 25), (some 26), none⟩, 32768⟩,
  ⟨⟨.bin .add (.tmp 24) (.tmp 26), (some 27), none⟩, 114688⟩,
  ⟨⟨.bin .add (.tmp 27) (.const (.int .i64 1)), (some 28), none⟩, 245760⟩,
  ⟨⟨.move (.tmp 2), (some 29), none⟩, 0⟩,
  ⟨⟨.fieldAddr 1 (.tmp 3), (some 30), none⟩, 0⟩,
  ⟨⟨.load none (.tmp 30), (some 31), none⟩, 1048576⟩,
  ⟨⟨.bin .add (.tmp 29) (.tmp 31), (some 32), none⟩, 3670016⟩,
  ⟨⟨.fieldAddr 2 (.tmp 3), (some 33), none⟩, 0⟩,
  ⟨⟨.load none (.tmp 33), (some 34), none⟩, 8388608⟩,
  ⟨⟨.bin .add (.tmp 32) (.tmp 34), (some 35), none⟩, 33030144⟩,
  ⟨⟨.bin .add (.tmp 35) (.const (.int .i64 1)), (some 36), none⟩, 66584576⟩,
  ⟨⟨.call (.tmp 23) [(.tmp 28), (.tmp 36)], (some 37), none⟩, 134217727⟩,
  ⟨⟨.fieldAddr 3 (.tmp 3), (some 38), none⟩, 0⟩,
  ⟨⟨.load none (.tmp 38), (some 39), none⟩, 268435456⟩,
  ⟨⟨.build [(.slice none 0 0), (.slice none 0 0), (.int .i64 0)] [(0, 1, (.tmp 22)), (1, 1, (.tmp 37)), (2, 1, (.tmp 39))], (some 40), none⟩, 1073741823⟩,
  ⟨⟨.alloc 83 [(.slice none 0 0), (.slice none 0 0), (.int .i64 0)], (some 8), none⟩, 0⟩,
  ⟨⟨.store 3 (.tmp 8) (.tmp 40), none, none⟩, 4294967295⟩]
def o37_3 : List AOper := [⟨.fieldAddr 0 (.tmp 8), (some 41), none⟩,
  ⟨.load none (.tmp 41), (some 42), none⟩,
  ⟨.bu .len [(.tmp 42)], (some 43), none⟩,
  ⟨.fieldAddr 1 (.tmp 8), (some 44), none⟩,
  ⟨.load none (.tmp 44), (some 45), none⟩,
  ⟨.bu .len [(.tmp 45)], (some 46), none⟩,
  ⟨.bin .add (.tmp 43) (.tmp 46), (some 47), none⟩,
  ⟨.bin .eql (.tmp 47) (.const (.int .i64 0)), (some 48), none⟩]
def o37_4 : List AOper := [⟨.call (.func 59) [(.const (.int .i64 1))], (some 49), none⟩,
  ⟨.move (.tmp 49), (some 6), none⟩]
def o37_5 : List AOper := [⟨.fieldAddr 0 (.tmp 3), (some 50), none⟩,
  ⟨.load none (.tmp 50), (some 51), none⟩,
  ⟨.load (some 3) (.tmp 8), (some 52), none⟩,
  ⟨.call (.tmp 51) [(.tmp 52)], (some 53), none⟩,
  ⟨.move (.tmp 53), (some 6), none⟩]
def ir37 : AFn := ⟨54, [.tmp 6], (.seq (.ops o37_0) (.seq (.ops o37_1) (.seq (.draw d37_2) (.seq (.seq (.ops o37_3) (.cond (.tmp 48) (.seq (.ops o37_4) .ret) .skip)) (.seq (.ops o37_5) .ret)))))⟩
theorem ir37_eq : fnsOf Try.prog 37 = some ir37 := by kernel_rfl

/-! F57 lookout/cfar.made -/
def o57_0 : List AOper := [⟨.alloc 79 [.nilFunc, .nilFunc, .nilFunc, .nilFunc], (some 0), none⟩]
def o57_1 : List AOper := [⟨.build [.nilFunc, .nilFunc, .nilFunc, .nilFunc] [(0, 1, (.func 77)), (1, 1, (.func 80)), (2, 1, (.func 83)), (3, 1, (.func 85))], (some 1), none⟩,
  ⟨.build [.nilFunc, .nilFunc, .nilFunc, .nilFunc] [(0, 4, (.tmp 1))], (some 2), none⟩,
  ⟨.store 4 (.tmp 0) (.tmp 2), none, none⟩]
def ir57 : AFn := ⟨3, [.cell 0 (some 4)], (.seq (.ops o57_0) (.seq (.ops o57_1) .ret))⟩
theorem ir57_eq : fnsOf Try.prog 57 = some ir57 := by kernel_rfl

/-! F58 (lookout/cfar.look).level$1 -/
def o58_0 : List AOper := [⟨.move (.const (.slice none 0 0)), (some 5), none⟩]
def d58_1 : List DOper := [⟨⟨.move (.tmp 0), (some 6), none⟩, 0⟩,
  ⟨⟨.bu .max [(.tmp 6), (.const (.int .i64 0))], (some 7), none⟩, 1⟩,
  ⟨⟨.move (.tmp 1), (some 8), none⟩, 0⟩,
  ⟨⟨.load none (.tmp 2), (some 9), none⟩, 0⟩,
  ⟨⟨.bu .len [(.tmp 9)], (some 10), none⟩, 8⟩,
  ⟨⟨.bu .min [(.tmp 8), (.tmp 10)], (some 11), none⟩, 28⟩,
  ⟨⟨.move (.tmp 7), (some 0), none⟩, 3⟩,
  ⟨⟨.move (.tmp 11), (some 1), none⟩, 127⟩]
def o58_2 : List AOper := [⟨.move (.tmp 0), (some 12), none⟩,
  ⟨.move (.tmp 1), (some 13), none⟩,
  ⟨.bin .geq (.tmp 12) (.tmp 13), (some 14), none⟩]
def o58_3 : List AOper := [⟨.move (.const (.slice none 0 0)), (some 5), none⟩]
def o58_4 : List AOper := [⟨.load none (.tmp 2), (some 15), none⟩,
  ⟨.move (.tmp 0), (some 16), none⟩,
  ⟨.move (.tmp 1), (some 17), none⟩,
  ⟨.slSl 1 (.tmp 15) (some (.tmp 16)) (some (.tmp 17)) none, (some 18), none⟩,
  ⟨.move (.tmp 18), (some 5), none⟩]
def ir58 : AFn := ⟨19, [.tmp 5], (.seq (.ops o58_0) (.seq (.draw d58_1) (.seq (.seq (.ops o58_2) (.cond (.tmp 14) (.seq (.ops o58_3) .ret) .skip)) (.seq (.ops o58_4) .ret))))⟩
theorem ir58_eq : fnsOf Try.prog 58 = some ir58 := by kernel_rfl

/-! F59 math.Inf -/
def o59_0 : List AOper := [⟨.move (.const (.float .f64 0)), (some 2), none⟩]
def o59_1 : List AOper := [⟨.move (.const (.int .u64 0)), (some 3), none⟩]
def o59_2 : List AOper := [⟨.move (.tmp 0), (some 4), none⟩,
  ⟨.bin .geq (.tmp 4) (.const (.int .i64 0)), (some 5), none⟩]
def o59_3 : List AOper := [⟨.move (.const (.int .u64 9218868437227405312)), (some 3), none⟩]
def o59_4 : List AOper := [⟨.move (.const (.int .u64 18442240474082181120)), (some 3), none⟩]
def o59_5 : List AOper := [⟨.move (.tmp 3), (some 6), none⟩,
  ⟨.ext 1 74 [(.tmp 6)], (some 7), none⟩,
  ⟨.move (.tmp 7), (some 2), none⟩]
def ir59 : AFn := ⟨8, [.tmp 2], (.seq (.ops o59_0) (.seq (.ops o59_1) (.seq (.seq (.ops o59_2) (.cond (.tmp 5) (.ops o59_3) (.ops o59_4))) (.seq (.ops o59_5) .ret))))⟩
theorem ir59_eq : fnsOf Try.prog 59 = some ir59 := by kernel_rfl

/-! F77 lookout/cfar.made$1 -/
def o77_0 : List AOper := [⟨.box 83 (.tmp 0), (some 1), none⟩,
  ⟨.move (.const (.float .f64 0)), (some 2), none⟩]
def o77_1 : List AOper := [⟨.load (some 3) (.tmp 1), (some 3), none⟩,
  ⟨.call (.func 79) [(.tmp 3)], (some 4), none⟩,
  ⟨.call (.func 78) [(.tmp 4)], (some 5), none⟩,
  ⟨.move (.tmp 5), (some 2), none⟩]
def ir77 : AFn := ⟨6, [.tmp 2], (.seq (.ops o77_0) (.seq (.ops o77_1) .ret))⟩
theorem ir77_eq : fnsOf Try.prog 77 = some ir77 := by kernel_rfl

/-! F78 lookout/cfar.mean -/
def o78_0 : List AOper := [⟨.move (.const (.float .f64 0)), (some 2), none⟩]
def o78_1 : List AOper := [⟨.move (.tmp 0), (some 3), none⟩,
  ⟨.call (.func 18) [(.tmp 3)], (some 4), none⟩,
  ⟨.move (.tmp 0), (some 5), none⟩,
  ⟨.bu .len [(.tmp 5)], (some 6), none⟩,
  ⟨.conv (.toFloat .f64) (.tmp 6), (some 7), none⟩,
  ⟨.bin .quo (.tmp 4) (.tmp 7), (some 8), none⟩,
  ⟨.move (.tmp 8), (some 2), none⟩]
def ir78 : AFn := ⟨9, [.tmp 2], (.seq (.ops o78_0) (.seq (.ops o78_1) .ret))⟩
theorem ir78_eq : fnsOf Try.prog 78 = some ir78 := by kernel_rfl

/-! F79 (lookout/cfar.side).all -/
def o79_0 : List AOper := [⟨.box 83 (.tmp 0), (some 1), none⟩,
  ⟨.move (.const (.slice none 0 0)), (some 2), none⟩]
def d79_1 : List DOper := [⟨⟨.fieldAddr 0 (.tmp 1), (some 3), none⟩, 0⟩,
  ⟨⟨.load none (.tmp 3), (some 4), none⟩, 1⟩,
  ⟨⟨.append 24 8 1 [(.float .f64 0)] (.const (.slice none 0 0)) (.tmp 4), (some 5), none⟩, 3⟩,
  ⟨⟨.fieldAddr 1 (.tmp 1), (some 6), none⟩, 0⟩,
  ⟨⟨.load none (.tmp 6), (some 7), none⟩, 8⟩,
  ⟨⟨.append 24 8 1 [(.float .f64 0)] (.tmp 5) (.tmp 7), (some 8), none⟩, 31⟩,
  ⟨⟨.move (.tmp 8), (some 2), none⟩, 63⟩]
def ir79 : AFn := ⟨9, [.tmp 2], (.seq (.ops o79_0) (.seq (.draw d79_1) .ret))⟩
theorem ir79_eq : fnsOf Try.prog 79 = some ir79 := by kernel_rfl

/-! F80 lookout/cfar.made$2 -/
def o80_0 : List AOper := [⟨.box 83 (.tmp 0), (some 1), none⟩,
  ⟨.move (.const (.float .f64 0)), (some 2), none⟩]
def o80_1 : List AOper := [⟨.load (some 3) (.tmp 1), (some 3), none⟩,
  ⟨.call (.func 81) [(.tmp 3), (.func 82)], (some 4), none⟩,
  ⟨.move (.tmp 4), (some 2), none⟩]
def ir80 : AFn := ⟨5, [.tmp 2], (.seq (.ops o80_0) (.seq (.ops o80_1) .ret))⟩
theorem ir80_eq : fnsOf Try.prog 80 = some ir80 := by kernel_rfl

/-! F81 (lookout/cfar.side).of -/
def o81_0 : List AOper := [⟨.box 83 (.tmp 0), (some 2), none⟩,
  ⟨.move (.const (.float .f64 0)), (some 4), none⟩]
def o81_1 : List AOper := [⟨.fieldAddr 0 (.tmp 2), (some 8), none⟩,
  ⟨.load none (.tmp 8), (some 9), none⟩,
  ⟨.bu .len [(.tmp 9)], (some 10), none⟩,
  ⟨.bin .eql (.tmp 10) (.const (.int .i64 0)), (some 11), none⟩,
  ⟨.move (.tmp 11), (some 7), none⟩]
def o81_2 : List AOper := [⟨.fieldAddr 1 (.tmp 2), (some 12), none⟩,
  ⟨.load none (.tmp 12), (some 13), none⟩,
  ⟨.call (.func 78) [(.tmp 13)], (some 14), none⟩,
  ⟨.move (.tmp 14), (some 4), none⟩]
def o81_3 : List AOper := [⟨.fieldAddr 1 (.tmp 2), (some 16), none⟩,
  ⟨.load none (.tmp 16), (some 17), none⟩,
  ⟨.bu .len [(.tmp 17)], (some 18), none⟩,
  ⟨.bin .eql (.tmp 18) (.const (.int .i64 0)), (some 19), none⟩,
  ⟨.move (.tmp 19), (some 15), none⟩]
def o81_4 : List AOper := [⟨.fieldAddr 0 (.tmp 2), (some 20), none⟩,
  ⟨.load none (.tmp 20), (some 21), none⟩,
  ⟨.call (.func 78) [(.tmp 21)], (some 22), none⟩,
  ⟨.move (.tmp 22), (some 4), none⟩]
def d81_5 : List DOper := [⟨⟨.fieldAddr 0 (.tmp 2), (some 23), none⟩, 0⟩,
  ⟨⟨.load none (.tmp 23), (some 24), none⟩, 1⟩,
  ⟨⟨.call (.func 78) [(.tmp 24)], (some 25), none⟩, 3⟩,
  ⟨⟨.fieldAddr 1 (.tmp 2), (some 26), none⟩, 0⟩,
  ⟨⟨.load none (.tmp 26), (some 27), none⟩, 8⟩,
  ⟨⟨.call (.func 78) [(.tmp 27)], (some 28), none⟩, 31⟩,
  ⟨⟨.move (.tmp 25), (some 5), none⟩, 63⟩,
  ⟨⟨.move (.tmp 28), (some 6), none⟩, 127⟩]
def o81_6 : List AOper := [⟨.move (.tmp 1), (some 29), none⟩,
  ⟨.move (.tmp 6), (some 30), none⟩,
  ⟨.move (.tmp 5), (some 31), none⟩,
  ⟨.call (.tmp 29) [(.tmp 30), (.tmp 31)], (some 32), none⟩]
def o81_7 : List AOper := [⟨.move (.tmp 6), (some 33), none⟩,
  ⟨.move (.tmp 33), (some 4), none⟩]
def o81_8 : List AOper := [⟨.move (.tmp 5), (some 34), none⟩,
  ⟨.move (.tmp 34), (some 4), none⟩]
def ir81 : AFn := ⟨35, [.tmp 4], (.seq (.ops o81_0) (.seq (.block 0 (.seq (.ops o81_1) (.cond (.tmp 7) (.seq (.ops o81_2) .ret) (.seq (.ops o81_3) (.cond (.tmp 15) (.seq (.ops o81_4) .ret) .skip))))) (.seq (.draw d81_5) (.seq (.seq (.ops o81_6) (.cond (.tmp 32) (.seq (.ops o81_7) .ret) .skip)) (.seq (.ops o81_8) .ret)))))⟩
theorem ir81_eq : fnsOf Try.prog 81 = some ir81 := by kernel_rfl

/-! F82 lookout/cfar.made$2$1 -/
def o82_0 : List AOper := [⟨.move (.const (.bool false)), (some 4), none⟩]
def o82_1 : List AOper := [⟨.move (.tmp 0), (some 5), none⟩,
  ⟨.move (.tmp 1), (some 6), none⟩,
  ⟨.bin .gtr (.tmp 5) (.tmp 6), (some 7), none⟩,
  ⟨.move (.tmp 7), (some 4), none⟩]
def ir82 : AFn := ⟨8, [.tmp 4], (.seq (.ops o82_0) (.seq (.ops o82_1) .ret))⟩
theorem ir82_eq : fnsOf Try.prog 82 = some ir82 := by kernel_rfl

/-! F83 lookout/cfar.made$3 -/
def o83_0 : List AOper := [⟨.box 83 (.tmp 0), (some 1), none⟩,
  ⟨.move (.const (.float .f64 0)), (some 2), none⟩]
def o83_1 : List AOper := [⟨.load (some 3) (.tmp 1), (some 3), none⟩,
  ⟨.call (.func 81) [(.tmp 3), (.func 84)], (some 4), none⟩,
  ⟨.move (.tmp 4), (some 2), none⟩]
def ir83 : AFn := ⟨5, [.tmp 2], (.seq (.ops o83_0) (.seq (.ops o83_1) .ret))⟩
theorem ir83_eq : fnsOf Try.prog 83 = some ir83 := by kernel_rfl

/-! F84 lookout/cfar.made$3$1 -/
def o84_0 : List AOper := [⟨.move (.const (.bool false)), (some 4), none⟩]
def o84_1 : List AOper := [⟨.move (.tmp 0), (some 5), none⟩,
  ⟨.move (.tmp 1), (some 6), none⟩,
  ⟨.bin .lss (.tmp 5) (.tmp 6), (some 7), none⟩,
  ⟨.move (.tmp 7), (some 4), none⟩]
def ir84 : AFn := ⟨8, [.tmp 4], (.seq (.ops o84_0) (.seq (.ops o84_1) .ret))⟩
theorem ir84_eq : fnsOf Try.prog 84 = some ir84 := by kernel_rfl

/-! F85 lookout/cfar.made$4 -/
def o85_0 : List AOper := [⟨.box 83 (.tmp 0), (some 1), none⟩,
  ⟨.move (.const (.float .f64 0)), (some 2), none⟩]
def o85_1 : List AOper := [⟨.load (some 3) (.tmp 1), (some 6), none⟩,
  ⟨.call (.func 79) [(.tmp 6)], (some 7), none⟩,
  ⟨.move (.tmp 7), (some 3), none⟩]
def o85_2 : List AOper := [⟨.move (.tmp 3), (some 9), none⟩,
  ⟨.fieldAddr 2 (.tmp 1), (some 10), none⟩,
  ⟨.load none (.tmp 10), (some 11), none⟩,
  ⟨.move (.tmp 3), (some 12), none⟩,
  ⟨.bu .len [(.tmp 12)], (some 13), none⟩,
  ⟨.bin .sub (.tmp 13) (.const (.int .i64 1)), (some 14), none⟩,
  ⟨.bu .min [(.tmp 11), (.tmp 14)], (some 15), none⟩,
  ⟨.call (.func 20) [(.tmp 9), (.tmp 15)], (some 16), none⟩,
  ⟨.move (.tmp 16), (some 8), none⟩,
  ⟨.extract (.tmp 8) 0, (some 17), none⟩,
  ⟨.extract (.tmp 8) 1, (some 18), none⟩,
  ⟨.move (.tmp 17), (some 4), none⟩,
  ⟨.move (.tmp 18), (some 5), none⟩]
def o85_3 : List AOper := [⟨.move (.tmp 4), (some 19), none⟩,
  ⟨.move (.tmp 19), (some 2), none⟩]
def ir85 : AFn := ⟨20, [.tmp 2], (.seq (.ops o85_0) (.seq (.ops o85_1) (.seq (.ops o85_2) (.seq (.ops o85_3) .ret))))⟩
theorem ir85_eq : fnsOf Try.prog 85 = some ir85 := by kernel_rfl


end Go.Proofs.Ytfjdihfflghfpaa

/- The small machine's text of functions of the seat. -/
namespace Go.Proofs.Ytfjdihfflghfpaa
open Go Go.Vam

/-! F9 lookout/lookoutlaw14.work -/
def o9_0 : List AOper := [⟨.box 26 (.tmp 1), (some 3), none⟩,
  ⟨.move (.const (.bool false)), (some 4), none⟩]
def d9_1 : List DOper := [⟨⟨.move (.tmp 0), (some 5), none⟩, 0⟩,
  ⟨⟨.bin .gtr (.tmp 5) (.const (.int .i64 65536)), (some 6), none⟩, 1⟩,
  ⟨⟨.move (.tmp 6), (some 7), none⟩, 3⟩,
  ⟨⟨.move (.tmp 0), (some 8), (some (7, false))⟩, 7⟩,
  ⟨⟨.bin .gtr (.tmp 8) (.const (.int .i64 0)), (some 9), (some (7, false))⟩, 15⟩,
  ⟨⟨.move (.tmp 9), (some 10), (some (7, false))⟩, 31⟩,
  ⟨⟨.fieldAddr 2 (.tmp 3), (some 11), (some (10, true))⟩, 63⟩,
  ⟨⟨.load none (.tmp 11), (some 12), (some (10, true))⟩, 127⟩,
  ⟨⟨.move (.tmp 0), (some 13), (some (10, true))⟩, 63⟩,
  ⟨⟨.bin .quo (.const (.int .i64 4194304)) (.tmp 13), (some 14), (some (10, true))⟩, 319⟩,
  ⟨⟨.bin .gtr (.tmp 12) (.tmp 14), (some 15), (some (10, true))⟩, 1023⟩,
  ⟨⟨.pick (.tmp 10) (.tmp 15) (.const (.bool false)), (some 16), (some (7, false))⟩, 2047⟩,
  ⟨⟨.move (.tmp 16), (some 17), (some (7, false))⟩, 4095⟩,
  ⟨⟨.move (.tmp 0), (some 18), (some (17, true))⟩, 8191⟩,
  ⟨⟨.bin .leq (.tmp 18) (.const (.int .i64 16384)), (some 19), (some (17, true))⟩, 16383⟩,
  ⟨⟨.pick (.tmp 17) (.tmp 19) (.const (.bool false)), (some 20), (some (7, false))⟩, 32767⟩,
  ⟨⟨.pick (.tmp 7) (.const (.bool true)) (.tmp 20), (some 21), none⟩, 65535⟩,
  ⟨⟨.move (.tmp 21), (some 4), none⟩, 131071⟩]
def ir9 : AFn := ⟨22, [.tmp 4], (.seq (.ops o9_0) (.seq (.draw d9_1) .ret))⟩
theorem ir9_eq : fnsOf Try.prog 9 = some ir9 := by kernel_rfl

/-! F12 lookout/cfar.Level -/
def o12_0 : List AOper := [⟨.move (.const (.float .f64 0)), (some 12), none⟩,
  ⟨.move (.const (.int .i64 0)), (some 13), none⟩]
def o12_1 : List AOper := [⟨.move (.tmp 0), (some 17), none⟩,
  ⟨.move (.tmp 2), (some 18), none⟩,
  ⟨.move (.tmp 3), (some 19), none⟩,
  ⟨.move (.tmp 4), (some 20), none⟩,
  ⟨.move (.tmp 5), (some 21), none⟩,
  ⟨.call (.func 36) [(.tmp 17), (.tmp 18), (.tmp 19), (.tmp 20), (.tmp 21)], (some 22), none⟩,
  ⟨.move (.tmp 22), (some 16), none⟩,
  ⟨.extract (.tmp 16) 0, (some 23), none⟩,
  ⟨.extract (.tmp 16) 1, (some 24), none⟩,
  ⟨.alloc 64 [.nilFunc, (.int .i64 0), (.int .i64 0), (.int .i64 0)], (some 14), none⟩,
  ⟨.store 4 (.tmp 14) (.tmp 23), none, none⟩,
  ⟨.move (.tmp 24), (some 15), none⟩]
def o12_2 : List AOper := [⟨.move (.tmp 15), (some 25), none⟩,
  ⟨.bin .neq (.tmp 25) (.const (.int .i64 0)), (some 26), none⟩]
def o12_3 : List AOper := [⟨.move (.tmp 15), (some 27), none⟩,
  ⟨.move (.const (.float .f64 0)), (some 12), none⟩,
  ⟨.move (.tmp 27), (some 13), none⟩]
def o12_4 : List AOper := [⟨.move (.tmp 1), (some 28), none⟩,
  ⟨.bin .lss (.tmp 28) (.const (.int .i64 0)), (some 29), none⟩,
  ⟨.move (.tmp 29), (some 30), none⟩,
  ⟨.move (.tmp 1), (some 31), (some (30, false))⟩,
  ⟨.move (.tmp 0), (some 32), (some (30, false))⟩,
  ⟨.bu .len [(.tmp 32)], (some 33), (some (30, false))⟩,
  ⟨.bin .geq (.tmp 31) (.tmp 33), (some 34), (some (30, false))⟩,
  ⟨.pick (.tmp 30) (.const (.bool true)) (.tmp 34), (some 35), none⟩]
def o12_5 : List AOper := [⟨.move (.const (.float .f64 0)), (some 12), none⟩,
  ⟨.move (.const (.int .i64 2)), (some 13), none⟩]
def o12_6 : List AOper := [⟨.load (some 4) (.tmp 14), (some 36), none⟩,
  ⟨.move (.tmp 0), (some 37), none⟩,
  ⟨.move (.tmp 1), (some 38), none⟩,
  ⟨.call (.func 37) [(.tmp 36), (.tmp 37), (.tmp 38)], (some 39), none⟩,
  ⟨.move (.tmp 39), (some 12), none⟩,
  ⟨.move (.const (.int .i64 0)), (some 13), none⟩]
def ir12 : AFn := ⟨40, [.tmp 12, .tmp 13], (.seq (.ops o12_0) (.seq (.ops o12_1) (.seq (.seq (.ops o12_2) (.cond (.tmp 26) (.seq (.ops o12_3) .ret) .skip)) (.seq (.seq (.ops o12_4) (.cond (.tmp 35) (.seq (.ops o12_5) .ret) .skip)) (.seq (.ops o12_6) .ret)))))⟩
theorem ir12_eq : fnsOf Try.prog 12 = some ir12 := by kernel_rfl

/-! F16 lookout/cfar.Line -/
def o16_0 : List AOper := [⟨.move (.const (.slice none 0 0)), (some 12), none⟩,
  ⟨.move (.const (.int .i64 0)), (some 13), none⟩]
def o16_1 : List AOper := [⟨.move (.tmp 0), (some 20), none⟩,
  ⟨.move (.tmp 1), (some 21), none⟩,
  ⟨.move (.tmp 2), (some 22), none⟩,
  ⟨.move (.tmp 3), (some 23), none⟩,
  ⟨.move (.tmp 4), (some 24), none⟩,
  ⟨.call (.func 36) [(.tmp 20), (.tmp 21), (.tmp 22), (.tmp 23), (.tmp 24)], (some 25), none⟩,
  ⟨.move (.tmp 25), (some 19), none⟩,
  ⟨.extract (.tmp 19) 0, (some 26), none⟩,
  ⟨.extract (.tmp 19) 1, (some 27), none⟩,
  ⟨.alloc 64 [.nilFunc, (.int .i64 0), (.int .i64 0), (.int .i64 0)], (some 14), none⟩,
  ⟨.store 4 (.tmp 14) (.tmp 26), none, none⟩,
  ⟨.move (.tmp 27), (some 15), none⟩]
def o16_2 : List AOper := [⟨.move (.tmp 15), (some 28), none⟩,
  ⟨.bin .neq (.tmp 28) (.const (.int .i64 0)), (some 29), none⟩]
def o16_3 : List AOper := [⟨.move (.tmp 15), (some 30), none⟩,
  ⟨.move (.const (.slice none 0 0)), (some 12), none⟩,
  ⟨.move (.tmp 30), (some 13), none⟩]
def o16_4 : List AOper := [⟨.move (.tmp 5), (some 31), none⟩,
  ⟨.move (.tmp 5), (some 32), none⟩,
  ⟨.bin .sub (.tmp 31) (.tmp 32), (some 33), none⟩,
  ⟨.bin .neq (.tmp 33) (.const (.float .f64 0)), (some 34), none⟩]
def o16_5 : List AOper := [⟨.move (.const (.slice none 0 0)), (some 12), none⟩,
  ⟨.move (.const (.int .i64 6)), (some 13), none⟩]
def o16_6 : List AOper := [⟨.move (.tmp 0), (some 35), none⟩,
  ⟨.bu .len [(.tmp 35)], (some 36), none⟩,
  ⟨.makeSlice 4 1 1 [(.bool false)] (.tmp 36) (.tmp 36), (some 37), none⟩,
  ⟨.move (.tmp 37), (some 16), none⟩]
def o16_7 : List AOper := [⟨.move (.tmp 0), (some 38), none⟩,
  ⟨.bu .len [(.tmp 38)], (some 39), none⟩,
  ⟨.move (.const (.int .i64 0)), (some 40), none⟩]
def o16_9 : List AOper := [⟨.bin .lss (.tmp 40) (.tmp 39), (some 41), none⟩]
def o16_10 : List AOper := [⟨.move (.tmp 40), (some 42), none⟩,
  ⟨.addrSl 1 (.tmp 38) (.tmp 40), (some 43), none⟩,
  ⟨.load none (.tmp 43), (some 44), none⟩,
  ⟨.move (.tmp 42), (some 17), none⟩,
  ⟨.move (.tmp 44), (some 18), none⟩]
def o16_11 : List AOper := [⟨.move (.tmp 16), (some 45), none⟩,
  ⟨.move (.tmp 17), (some 46), none⟩,
  ⟨.move (.tmp 18), (some 47), none⟩,
  ⟨.load (some 4) (.tmp 14), (some 48), none⟩,
  ⟨.move (.tmp 0), (some 49), none⟩,
  ⟨.move (.tmp 17), (some 50), none⟩,
  ⟨.call (.func 37) [(.tmp 48), (.tmp 49), (.tmp 50)], (some 51), none⟩,
  ⟨.move (.tmp 5), (some 52), none⟩,
  ⟨.bin .mul (.tmp 51) (.tmp 52), (some 53), none⟩,
  ⟨.bin .gtr (.tmp 47) (.tmp 53), (some 54), none⟩,
  ⟨.addrSl 1 (.tmp 45) (.tmp 46), (some 55), none⟩,
  ⟨.store 1 (.tmp 55) (.tmp 54), none, none⟩]
def o16_12 : List AOper := [⟨.bin .add (.tmp 40) (.const (.int .i64 1)), (some 56), none⟩,
  ⟨.move (.tmp 56), (some 40), none⟩]
def b16_8 : ACode := (.seq (.ops o16_9) (.seq (.cond (.tmp 41) .skip (.exit 0)) (.seq (.block 1 (.seq (.ops o16_10) (.ops o16_11))) (.ops o16_12))))
def o16_13 : List AOper := [⟨.move (.tmp 16), (some 57), none⟩,
  ⟨.move (.tmp 57), (some 12), none⟩,
  ⟨.move (.const (.int .i64 0)), (some 13), none⟩]
def ir16 : AFn := ⟨58, [.tmp 12, .tmp 13], (.seq (.ops o16_0) (.seq (.ops o16_1) (.seq (.seq (.ops o16_2) (.cond (.tmp 29) (.seq (.ops o16_3) .ret) .skip)) (.seq (.seq (.ops o16_4) (.cond (.tmp 34) (.seq (.ops o16_5) .ret) .skip)) (.seq (.ops o16_6) (.seq (.seq (.ops o16_7) (.block 0 (.loop b16_8))) (.seq (.ops o16_13) .ret)))))))⟩
theorem ir16_eq : fnsOf Try.prog 16 = some ir16 := by kernel_rfl


end Go.Proofs.Ytfjdihfflghfpaa
