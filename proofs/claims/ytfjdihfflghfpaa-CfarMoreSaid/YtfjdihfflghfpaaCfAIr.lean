/- The small machine's text of functions of the seat. -/
import Derived.Test.YtfjdihfflghfpaaRows
import Derived.Test.YtfjdihfflghfpaaVam25
import Derived.KernelRfl
namespace Go.Proofs.Ytfjdihfflghfpaa
open Go Go.Vam

/-! F36 lookout/cfar.looked -/
def o36_0 : List AOper := [⟨.alloc 64 [.nilFunc, (.int .i64 0), (.int .i64 0), (.int .i64 0)], (some 10), none⟩,
  ⟨.move (.const (.int .i64 0)), (some 11), none⟩]
def o36_1 : List AOper := [⟨.move (.tmp 0), (some 14), none⟩,
  ⟨.bu .len [(.tmp 14)], (some 15), none⟩,
  ⟨.bin .gtr (.tmp 15) (.const (.int .i64 16384)), (some 16), none⟩,
  ⟨.move (.tmp 16), (some 13), none⟩]
def o36_2 : List AOper := [⟨.build [.nilFunc, (.int .i64 0), (.int .i64 0), (.int .i64 0)] [], (some 17), none⟩,
  ⟨.store 4 (.tmp 10) (.tmp 17), none, none⟩,
  ⟨.move (.const (.int .i64 3)), (some 11), none⟩]
def o36_3 : List AOper := [⟨.move (.tmp 2), (some 19), none⟩,
  ⟨.bin .lss (.tmp 19) (.const (.int .i64 0)), (some 20), none⟩,
  ⟨.move (.tmp 20), (some 18), none⟩]
def o36_4 : List AOper := [⟨.move (.tmp 2), (some 21), none⟩,
  ⟨.bin .gtr (.tmp 21) (.const (.int .i64 16384)), (some 22), none⟩,
  ⟨.move (.tmp 22), (some 18), none⟩]
def o36_5 : List AOper := [⟨.move (.tmp 3), (some 23), none⟩,
  ⟨.bin .lss (.tmp 23) (.const (.int .i64 1)), (some 24), none⟩,
  ⟨.move (.tmp 24), (some 18), none⟩]
def o36_6 : List AOper := [⟨.move (.tmp 3), (some 25), none⟩,
  ⟨.bin .gtr (.tmp 25) (.const (.int .i64 16384)), (some 26), none⟩,
  ⟨.move (.tmp 26), (some 18), none⟩]
def o36_7 : List AOper := [⟨.move (.tmp 4), (some 27), none⟩,
  ⟨.bin .lss (.tmp 27) (.const (.int .i64 0)), (some 28), none⟩,
  ⟨.move (.tmp 28), (some 18), none⟩]
def o36_8 : List AOper := [⟨.move (.tmp 4), (some 29), none⟩,
  ⟨.bin .gtr (.tmp 29) (.const (.int .i64 32768)), (some 30), none⟩,
  ⟨.move (.tmp 30), (some 18), none⟩]
def o36_9 : List AOper := [⟨.build [.nilFunc, (.int .i64 0), (.int .i64 0), (.int .i64 0)] [], (some 31), none⟩,
  ⟨.store 4 (.tmp 10) (.tmp 31), none, none⟩,
  ⟨.move (.const (.int .i64 2)), (some 11), none⟩]
def o36_10 : List AOper := [⟨.call (.func 57) [], (some 32), none⟩,
  ⟨.alloc 79 [.nilFunc, .nilFunc, .nilFunc, .nilFunc], (some 12), none⟩,
  ⟨.store 4 (.tmp 12) (.tmp 32), none, none⟩]
def o36_11 : List AOper := [⟨.move (.tmp 1), (some 33), none⟩,
  ⟨.bin .lss (.tmp 33) (.const (.int .i8 0)), (some 34), none⟩,
  ⟨.move (.tmp 34), (some 35), none⟩,
  ⟨.move (.tmp 1), (some 36), (some (35, false))⟩,
  ⟨.conv (.toInt .i64) (.tmp 36), (some 37), (some (35, false))⟩,
  ⟨.bin .geq (.tmp 37) (.const (.int .i64 4)), (some 38), (some (35, false))⟩,
  ⟨.pick (.tmp 35) (.const (.bool true)) (.tmp 38), (some 39), none⟩]
def o36_12 : List AOper := [⟨.move (.const (.int .i8 0)), (some 1), none⟩]
def o36_13 : List AOper := [⟨.move (.tmp 1), (some 40), none⟩,
  ⟨.fieldAddr 0 (.tmp 12), (some 41), none⟩,
  ⟨.addrArr 4 1 (.tmp 41) (.tmp 40), (some 42), none⟩,
  ⟨.load none (.tmp 42), (some 43), none⟩,
  ⟨.move (.tmp 2), (some 44), none⟩,
  ⟨.move (.tmp 3), (some 45), none⟩,
  ⟨.move (.tmp 4), (some 46), none⟩,
  ⟨.build [.nilFunc, (.int .i64 0), (.int .i64 0), (.int .i64 0)] [(0, 1, (.tmp 43)), (1, 1, (.tmp 44)), (2, 1, (.tmp 45)), (3, 1, (.tmp 46))], (some 47), none⟩,
  ⟨.store 4 (.tmp 10) (.tmp 47), none, none⟩,
  ⟨.move (.const (.int .i64 0)), (some 11), none⟩]
def ir36 : AFn := ⟨48, [.cell 10 (some 4), .tmp 11], (.seq (.ops o36_0) (.seq (.block 0 (.seq (.ops o36_1) (.cond (.tmp 13) (.seq (.ops o36_2) .ret) (.seq (.seq (.ops o36_3) (.cond (.tmp 18) .skip (.seq (.ops o36_4) (.cond (.tmp 18) .skip (.seq (.ops o36_5) (.cond (.tmp 18) .skip (.seq (.ops o36_6) (.cond (.tmp 18) .skip (.seq (.ops o36_7) (.cond (.tmp 18) .skip (.ops o36_8))))))))))) (.cond (.tmp 18) (.seq (.ops o36_9) .ret) .skip))))) (.seq (.ops o36_10) (.seq (.seq (.ops o36_11) (.cond (.tmp 39) (.ops o36_12) .skip)) (.seq (.ops o36_13) .ret)))))⟩
theorem ir36_eq : fnsOf Try.prog 36 = some ir36 := by kernel_rfl

/-! F37 (lookout/cfar.look).level -/
def o37_0 : List AOper := [⟨.box 64 (.tmp 0), (some 3), none⟩,
  ⟨.box 22 (.tmp 1), (some 4), none⟩,
  ⟨.move (.const (.float .f64 0)), (some 6), none⟩]
def o37_1 : List AOper := [⟨.mkFunc (.func 58) [] [(.tmp 4)], (some 9), none⟩,
  ⟨.move (.tmp 9), (some 7), none⟩]
def d37_2 : List DOper := [⟨⟨.move (.tmp 7), (some 10), none⟩, 0⟩,
  ⟨⟨.move (.tmp 2), (some 11), none⟩, 0⟩,
  ⟨⟨.fieldAddr 1 (.tmp 3), (some 12), none⟩, 0⟩,
  ⟨⟨.load none (.tmp 12), (some 13), none⟩, 4⟩,
  ⟨⟨.bin .sub (.tmp 11) (.tmp 13), (some 14), none⟩, 14⟩,
  ⟨⟨.fieldAddr 2 (.tmp 3), (some 15), none⟩, 0⟩,
  ⟨⟨.load none (.tmp 15), (some 16), none⟩, 32⟩,
  ⟨⟨.bin .sub (.tmp 14) (.tmp 16), (some 17), none⟩, 126⟩,
  ⟨⟨.move (.tmp 2), (some 18), none⟩, 0⟩,
  ⟨⟨.fieldAddr 1 (.tmp 3), (some 19), none⟩, 0⟩,
  ⟨⟨.load none (.tmp 19), (some 20), none⟩, 512⟩,
  ⟨⟨.bin .sub (.tmp 18) (.tmp 20), (some 21), none⟩, 1792⟩,
  ⟨⟨.call (.tmp 10) [(.tmp 17), (.tmp 21)], (some 22), none⟩, 4095⟩,
  ⟨⟨.move (.tmp 7), (some 23), none⟩, 0⟩,
  ⟨⟨.move (.tmp 2), (some 24), none⟩, 0⟩,
  ⟨⟨.fieldAddr 1 (.tmp 3), (some 25), none⟩, 0⟩,
  ⟨⟨.load none (.tmp 25), (some 26), none⟩, 32768⟩,
  ⟨⟨.bin .add (.tmp 24) (.tmp 26), (some 27), none⟩, 114688⟩,
  ⟨⟨.bin .add (.tmp 27) (.const (.int .i64 1)), (some 28), none⟩, 245760⟩,
  ⟨⟨.move (.tmp 2), (some 29), none⟩, 0⟩,
  ⟨⟨.fieldAddr 1 (.tmp 3), (some 30), none⟩, 0⟩,
  ⟨⟨.load none (.tmp 30), (some 31), none⟩, 1048576⟩,
  ⟨⟨.bin .add (.tmp 29) (.tmp 31), (some 32), none⟩, 3670016⟩,
  ⟨⟨.fieldAddr 2 (.tmp 3), (some 33), none⟩, 0⟩,
  ⟨⟨.load none (.tmp 33), (some 34), none⟩, 8388608⟩,
  ⟨⟨.bin .add (.tmp 32) (.tmp 34), (some 35), none⟩, 33030144⟩,
  ⟨⟨.bin .add (.tmp 35) (.const (.int .i64 1)), (some 36), none⟩, 66584576⟩,
  ⟨⟨.call (.tmp 23) [(.tmp 28), (.tmp 36)], (some 37), none⟩, 134217727⟩,
  ⟨⟨.fieldAddr 3 (.tmp 3), (some 38), none⟩, 0⟩,
  ⟨⟨.load none (.tmp 38), (some 39), none⟩, 268435456⟩,
  ⟨⟨.build [(.slice none 0 0), (.slice none 0 0), (.int .i64 0)] [(0, 1, (.tmp 22)), (1, 1, (.tmp 37)), (2, 1, (.tmp 39))], (some 40), none⟩, 1073741823⟩,
  ⟨⟨.alloc 83 [(.slice none 0 0), (.slice none 0 0), (.int .i64 0)], (some 8), none⟩, 0⟩,
  ⟨⟨.store 3 (.tmp 8) (.tmp 40), none, none⟩, 4294967295⟩]
def o37_3 : List AOper := [⟨.fieldAddr 0 (.tmp 8), (some 41), none⟩,
  ⟨.load none (.tmp 41), (some 42), none⟩,
  ⟨.bu .len [(.tmp 42)], (some 43), none⟩,
  ⟨.fieldAddr 1 (.tmp 8), (some 44), none⟩,
  ⟨.load none (.tmp 44), (some 45), none⟩,
  ⟨.bu .len [(.tmp 45)], (some 46), none⟩,
  ⟨.bin .add (.tmp 43) (.tmp 46), (some 47), none⟩,
  ⟨.bin .eql (.tmp 47) (.const (.int .i64 0)), (some 48), none⟩]
def o37_4 : List AOper := [⟨.call (.func 59) [(.const (.int .i64 1))], (some 49), none⟩,
  ⟨.move (.tmp 49), (some 6), none⟩]
def o37_5 : List AOper := [⟨.fieldAddr 0 (.tmp 3), (some 50), none⟩,
  ⟨.load none (.tmp 50), (some 51), none⟩,
  ⟨.load (some 3) (.tmp 8), (some 52), none⟩,
  ⟨.call (.tmp 51) [(.tmp 52)], (some 53), none⟩,
  ⟨.move (.tmp 53), (some 6), none⟩]
def ir37 : AFn := ⟨54, [.tmp 6], (.seq (.ops o37_0) (.seq (.ops o37_1) (.seq (.draw d37_2) (.seq (.seq (.ops o37_3) (.cond (.tmp 48) (.seq (.ops o37_4) .ret) .skip)) (.seq (.ops o37_5) .ret)))))⟩
theorem ir37_eq : fnsOf Try.prog 37 = some ir37 := by kernel_rfl

/-! F38 lookout/lookoutref14.may -/
def o38_0 : List AOper := [⟨.move (.const (.bool false)), (some 6), none⟩]
def o38_1 : List AOper := [⟨.move (.tmp 0), (some 7), none⟩,
  ⟨.bin .geq (.tmp 7) (.const (.int .i64 0)), (some 8), none⟩,
  ⟨.move (.tmp 8), (some 9), none⟩,
  ⟨.move (.tmp 0), (some 10), (some (9, true))⟩,
  ⟨.bin .leq (.tmp 10) (.const (.int .i64 16384)), (some 11), (some (9, true))⟩,
  ⟨.pick (.tmp 9) (.tmp 11) (.const (.bool false)), (some 12), none⟩,
  ⟨.move (.tmp 12), (some 13), none⟩,
  ⟨.move (.tmp 1), (some 14), (some (13, true))⟩,
  ⟨.bin .geq (.tmp 14) (.const (.int .i64 1)), (some 15), (some (13, true))⟩,
  ⟨.pick (.tmp 13) (.tmp 15) (.const (.bool false)), (some 16), none⟩,
  ⟨.move (.tmp 16), (some 17), none⟩,
  ⟨.move (.tmp 1), (some 18), (some (17, true))⟩,
  ⟨.bin .leq (.tmp 18) (.const (.int .i64 16384)), (some 19), (some (17, true))⟩,
  ⟨.pick (.tmp 17) (.tmp 19) (.const (.bool false)), (some 20), none⟩,
  ⟨.move (.tmp 20), (some 21), none⟩,
  ⟨.move (.tmp 2), (some 22), (some (21, true))⟩,
  ⟨.bin .geq (.tmp 22) (.const (.int .i64 0)), (some 23), (some (21, true))⟩,
  ⟨.pick (.tmp 21) (.tmp 23) (.const (.bool false)), (some 24), none⟩,
  ⟨.move (.tmp 24), (some 25), none⟩,
  ⟨.move (.tmp 2), (some 26), (some (25, true))⟩,
  ⟨.bin .leq (.tmp 26) (.const (.int .i64 32768)), (some 27), (some (25, true))⟩,
  ⟨.pick (.tmp 25) (.tmp 27) (.const (.bool false)), (some 28), none⟩,
  ⟨.move (.tmp 28), (some 6), none⟩]
def ir38 : AFn := ⟨29, [.tmp 6], (.seq (.ops o38_0) (.seq (.ops o38_1) .ret))⟩
theorem ir38_eq : fnsOf Try.prog 38 = some ir38 := by kernel_rfl

/-! F39 lookout/lookoutref14.level -/
def o39_0 : List AOper := [⟨.move (.const (.float .f64 0)), (some 12), none⟩]
def o39_1 : List AOper := [⟨.move (.tmp 0), (some 22), none⟩,
  ⟨.move (.tmp 1), (some 23), none⟩,
  ⟨.move (.tmp 3), (some 24), none⟩,
  ⟨.bin .sub (.tmp 23) (.tmp 24), (some 25), none⟩,
  ⟨.move (.tmp 4), (some 26), none⟩,
  ⟨.bin .sub (.tmp 25) (.tmp 26), (some 27), none⟩,
  ⟨.move (.tmp 1), (some 28), none⟩,
  ⟨.move (.tmp 3), (some 29), none⟩,
  ⟨.bin .sub (.tmp 28) (.tmp 29), (some 30), none⟩,
  ⟨.bin .sub (.tmp 30) (.const (.int .i64 1)), (some 31), none⟩,
  ⟨.call (.func 60) [(.tmp 22), (.tmp 27), (.tmp 31)], (some 32), none⟩,
  ⟨.move (.tmp 32), (some 13), none⟩]
def o39_2 : List AOper := [⟨.move (.tmp 0), (some 33), none⟩,
  ⟨.move (.tmp 1), (some 34), none⟩,
  ⟨.move (.tmp 3), (some 35), none⟩,
  ⟨.bin .add (.tmp 34) (.tmp 35), (some 36), none⟩,
  ⟨.bin .add (.tmp 36) (.const (.int .i64 1)), (some 37), none⟩,
  ⟨.move (.tmp 1), (some 38), none⟩,
  ⟨.move (.tmp 3), (some 39), none⟩,
  ⟨.bin .add (.tmp 38) (.tmp 39), (some 40), none⟩,
  ⟨.move (.tmp 4), (some 41), none⟩,
  ⟨.bin .add (.tmp 40) (.tmp 41), (some 42), none⟩,
  ⟨.call (.func 60) [(.tmp 33), (.tmp 37), (.tmp 42)], (some 43), none⟩,
  ⟨.move (.tmp 43), (some 14), none⟩]
def o39_3 : List AOper := [⟨.move (.const (.slice none 0 0)), (some 15), none⟩]
def o39_4 : List AOper := [⟨.move (.const (.int .i64 0)), (some 16), none⟩]
def o39_6 : List AOper := [⟨.move (.tmp 16), (some 44), none⟩,
  ⟨.move (.tmp 13), (some 45), none⟩,
  ⟨.bu .len [(.tmp 45)], (some 46), none⟩,
  ⟨.bin .lss (.tmp 44) (.tmp 46), (some 47), none⟩]
def o39_7 : List AOper := [⟨.move (.tmp 15), (some 50), none⟩,
  ⟨.move (.tmp 13), (some 51), none⟩,
  ⟨.move (.tmp 16), (some 52), none⟩,
  ⟨.addrSl 1 (.tmp 51) (.tmp 52), (some 53), none⟩,
  ⟨.load none (.tmp 53), (some 54), none⟩,
  ⟨.buildSlice 24 1 [(.float .f64 0)] 1 [(0, (.tmp 54))], (some 55), none⟩,
  ⟨.append 24 8 1 [(.float .f64 0)] (.tmp 50) (.tmp 55), (some 56), none⟩,
  ⟨.move (.tmp 56), (some 15), none⟩]
def o39_8 : List AOper := [⟨.move (.tmp 16), (some 48), none⟩,
  ⟨.bin .add (.tmp 48) (.const (.int .i64 1)), (some 49), none⟩,
  ⟨.move (.tmp 49), (some 16), none⟩]
def b39_5 : ACode := (.seq (.seq (.ops o39_6) (.cond (.tmp 47) .skip (.exit 0))) (.seq (.block 1 (.ops o39_7)) (.ops o39_8)))
def o39_9 : List AOper := [⟨.move (.const (.int .i64 0)), (some 17), none⟩]
def o39_11 : List AOper := [⟨.move (.tmp 17), (some 57), none⟩,
  ⟨.move (.tmp 14), (some 58), none⟩,
  ⟨.bu .len [(.tmp 58)], (some 59), none⟩,
  ⟨.bin .lss (.tmp 57) (.tmp 59), (some 60), none⟩]
def o39_12 : List AOper := [⟨.move (.tmp 15), (some 63), none⟩,
  ⟨.move (.tmp 14), (some 64), none⟩,
  ⟨.move (.tmp 17), (some 65), none⟩,
  ⟨.addrSl 1 (.tmp 64) (.tmp 65), (some 66), none⟩,
  ⟨.load none (.tmp 66), (some 67), none⟩,
  ⟨.buildSlice 24 1 [(.float .f64 0)] 1 [(0, (.tmp 67))], (some 68), none⟩,
  ⟨.append 24 8 1 [(.float .f64 0)] (.tmp 63) (.tmp 68), (some 69), none⟩,
  ⟨.move (.tmp 69), (some 15), none⟩]
def o39_13 : List AOper := [⟨.move (.tmp 17), (some 61), none⟩,
  ⟨.bin .add (.tmp 61) (.const (.int .i64 1)), (some 62), none⟩,
  ⟨.move (.tmp 62), (some 17), none⟩]
def b39_10 : ACode := (.seq (.seq (.ops o39_11) (.cond (.tmp 60) .skip (.exit 2))) (.seq (.block 3 (.ops o39_12)) (.ops o39_13)))
def o39_14 : List AOper := [⟨.move (.tmp 15), (some 70), none⟩,
  ⟨.bu .len [(.tmp 70)], (some 71), none⟩,
  ⟨.bin .eql (.tmp 71) (.const (.int .i64 0)), (some 72), none⟩]
def o39_15 : List AOper := [⟨.call (.func 59) [(.const (.int .i64 1))], (some 73), none⟩,
  ⟨.move (.tmp 73), (some 12), none⟩]
def o39_16 : List AOper := [⟨.move (.tmp 2), (some 74), none⟩,
  ⟨.bin .eql (.tmp 74) (.const (.int .i8 3)), (some 75), none⟩]
def o39_17 : List AOper := [⟨.move (.tmp 15), (some 77), none⟩,
  ⟨.move (.tmp 5), (some 78), none⟩,
  ⟨.move (.tmp 15), (some 79), none⟩,
  ⟨.bu .len [(.tmp 79)], (some 80), none⟩,
  ⟨.bin .sub (.tmp 80) (.const (.int .i64 1)), (some 81), none⟩,
  ⟨.bu .min [(.tmp 78), (.tmp 81)], (some 82), none⟩,
  ⟨.call (.func 21) [(.tmp 77), (.tmp 82)], (some 83), none⟩,
  ⟨.move (.tmp 83), (some 76), none⟩,
  ⟨.extract (.tmp 76) 0, (some 84), none⟩,
  ⟨.extract (.tmp 76) 1, (some 85), none⟩,
  ⟨.move (.tmp 84), (some 18), none⟩,
  ⟨.move (.tmp 85), (some 19), none⟩]
def o39_18 : List AOper := [⟨.move (.tmp 18), (some 86), none⟩,
  ⟨.move (.tmp 86), (some 12), none⟩]
def o39_19 : List AOper := [⟨.move (.tmp 2), (some 87), none⟩,
  ⟨.bin .neq (.tmp 87) (.const (.int .i8 1)), (some 88), none⟩,
  ⟨.move (.tmp 88), (some 89), none⟩,
  ⟨.move (.tmp 2), (some 90), (some (89, true))⟩,
  ⟨.bin .neq (.tmp 90) (.const (.int .i8 2)), (some 91), (some (89, true))⟩,
  ⟨.pick (.tmp 89) (.tmp 91) (.const (.bool false)), (some 92), none⟩]
def o39_20 : List AOper := [⟨.move (.tmp 15), (some 93), none⟩,
  ⟨.call (.func 61) [(.tmp 93)], (some 94), none⟩,
  ⟨.move (.tmp 94), (some 12), none⟩]
def o39_21 : List AOper := [⟨.move (.tmp 13), (some 95), none⟩,
  ⟨.bu .len [(.tmp 95)], (some 96), none⟩,
  ⟨.bin .eql (.tmp 96) (.const (.int .i64 0)), (some 97), none⟩]
def o39_22 : List AOper := [⟨.move (.tmp 14), (some 98), none⟩,
  ⟨.call (.func 61) [(.tmp 98)], (some 99), none⟩,
  ⟨.move (.tmp 99), (some 12), none⟩]
def o39_23 : List AOper := [⟨.move (.tmp 13), (some 100), none⟩,
  ⟨.call (.func 61) [(.tmp 100)], (some 101), none⟩,
  ⟨.move (.tmp 101), (some 20), none⟩]
def o39_24 : List AOper := [⟨.move (.tmp 14), (some 102), none⟩,
  ⟨.bu .len [(.tmp 102)], (some 103), none⟩,
  ⟨.bin .eql (.tmp 103) (.const (.int .i64 0)), (some 104), none⟩]
def o39_25 : List AOper := [⟨.move (.tmp 20), (some 105), none⟩,
  ⟨.move (.tmp 105), (some 12), none⟩]
def o39_26 : List AOper := [⟨.move (.tmp 14), (some 106), none⟩,
  ⟨.call (.func 61) [(.tmp 106)], (some 107), none⟩,
  ⟨.move (.tmp 107), (some 21), none⟩]
def o39_27 : List AOper := [⟨.move (.tmp 2), (some 108), none⟩,
  ⟨.bin .eql (.tmp 108) (.const (.int .i8 1)), (some 109), none⟩,
  ⟨.move (.tmp 109), (some 110), none⟩,
  ⟨.move (.tmp 21), (some 111), (some (110, true))⟩,
  ⟨.move (.tmp 20), (some 112), (some (110, true))⟩,
  ⟨.bin .gtr (.tmp 111) (.tmp 112), (some 113), (some (110, true))⟩,
  ⟨.pick (.tmp 110) (.tmp 113) (.const (.bool false)), (some 114), none⟩,
  ⟨.move (.tmp 114), (some 115), none⟩,
  ⟨.move (.tmp 2), (some 116), (some (115, false))⟩,
  ⟨.bin .eql (.tmp 116) (.const (.int .i8 2)), (some 117), (some (115, false))⟩,
  ⟨.move (.tmp 117), (some 118), (some (115, false))⟩,
  ⟨.move (.tmp 21), (some 119), (some (118, true))⟩,
  ⟨.move (.tmp 20), (some 120), (some (118, true))⟩,
  ⟨.bin .lss (.tmp 119) (.tmp 120), (some 121), (some (118, true))⟩,
  ⟨.pick (.tmp 118) (.tmp 121) (.const (.bool false)), (some 122), (some (115, false))⟩,
  ⟨.pick (.tmp 115) (.const (.bool true)) (.tmp 122), (some 123), none⟩]
def o39_28 : List AOper := [⟨.move (.tmp 21), (some 124), none⟩,
  ⟨.move (.tmp 124), (some 12), none⟩]
def o39_29 : List AOper := [⟨.move (.tmp 20), (some 125), none⟩,
  ⟨.move (.tmp 125), (some 12), none⟩]
def ir39 : AFn := ⟨126, [.tmp 12], (.seq (.ops o39_0) (.seq (.ops o39_1) (.seq (.ops o39_2) (.seq (.ops o39_3) (.seq (.seq (.ops o39_4) (.block 0 (.loop b39_5))) (.seq (.seq (.ops o39_9) (.block 2 (.loop b39_10))) (.seq (.seq (.ops o39_14) (.cond (.tmp 72) (.seq (.ops o39_15) .ret) .skip)) (.seq (.seq (.ops o39_16) (.cond (.tmp 75) (.seq (.ops o39_17) (.seq (.ops o39_18) .ret)) .skip)) (.seq (.seq (.ops o39_19) (.cond (.tmp 92) (.seq (.ops o39_20) .ret) .skip)) (.seq (.seq (.ops o39_21) (.cond (.tmp 97) (.seq (.ops o39_22) .ret) .skip)) (.seq (.ops o39_23) (.seq (.seq (.ops o39_24) (.cond (.tmp 104) (.seq (.ops o39_25) .ret) .skip)) (.seq (.ops o39_26) (.seq (.seq (.ops o39_27) (.cond (.tmp 123) (.seq (.ops o39_28) .ret) .skip)) (.seq (.ops o39_29) .ret)))))))))))))))⟩
theorem ir39_eq : fnsOf Try.prog 39 = some ir39 := by kernel_rfl

/-! F40 lookout/lookoutref01.IsFinite -/
def o40_0 : List AOper := [⟨.move (.const (.bool false)), (some 2), none⟩]
def o40_1 : List AOper := [⟨.move (.tmp 0), (some 3), none⟩,
  ⟨.move (.tmp 0), (some 4), none⟩,
  ⟨.bin .eql (.tmp 3) (.tmp 4), (some 5), none⟩,
  ⟨.move (.tmp 5), (some 6), none⟩,
  ⟨.move (.tmp 0), (some 7), (some (6, true))⟩,
  ⟨.bin .leq (.tmp 7) (.const (.float .f64 9218868437227405311)), (some 8), (some (6, true))⟩,
  ⟨.pick (.tmp 6) (.tmp 8) (.const (.bool false)), (some 9), none⟩,
  ⟨.move (.tmp 9), (some 10), none⟩,
  ⟨.move (.tmp 0), (some 11), (some (10, true))⟩,
  ⟨.bin .geq (.tmp 11) (.const (.float .f64 18442240474082181119)), (some 12), (some (10, true))⟩,
  ⟨.pick (.tmp 10) (.tmp 12) (.const (.bool false)), (some 13), none⟩,
  ⟨.move (.tmp 13), (some 2), none⟩]
def ir40 : AFn := ⟨14, [.tmp 2], (.seq (.ops o40_0) (.seq (.ops o40_1) .ret))⟩
theorem ir40_eq : fnsOf Try.prog 40 = some ir40 := by kernel_rfl

/-! F57 lookout/cfar.made -/
def o57_0 : List AOper := [⟨.alloc 79 [.nilFunc, .nilFunc, .nilFunc, .nilFunc], (some 0), none⟩]
def o57_1 : List AOper := [⟨.build [.nilFunc, .nilFunc, .nilFunc, .nilFunc] [(0, 1, (.func 77)), (1, 1, (.func 80)), (2, 1, (.func 83)), (3, 1, (.func 85))], (some 1), none⟩,
  ⟨.build [.nilFunc, .nilFunc, .nilFunc, .nilFunc] [(0, 4, (.tmp 1))], (some 2), none⟩,
  ⟨.store 4 (.tmp 0) (.tmp 2), none, none⟩]
def ir57 : AFn := ⟨3, [.cell 0 (some 4)], (.seq (.ops o57_0) (.seq (.ops o57_1) .ret))⟩
theorem ir57_eq : fnsOf Try.prog 57 = some ir57 := by kernel_rfl

/-! F58 (lookout/cfar.look).level$1 -/
def o58_0 : List AOper := [⟨.move (.const (.slice none 0 0)), (some 5), none⟩]
def d58_1 : List DOper := [⟨⟨.move (.tmp 0), (some 6), none⟩, 0⟩,
  ⟨⟨.bu .max [(.tmp 6), (.const (.int .i64 0))], (some 7), none⟩, 1⟩,
  ⟨⟨.move (.tmp 1), (some 8), none⟩, 0⟩,
  ⟨⟨.load none (.tmp 2), (some 9), none⟩, 0⟩,
  ⟨⟨.bu .len [(.tmp 9)], (some 10), none⟩, 8⟩,
  ⟨⟨.bu .min [(.tmp 8), (.tmp 10)], (some 11), none⟩, 28⟩,
  ⟨⟨.move (.tmp 7), (some 0), none⟩, 3⟩,
  ⟨⟨.move (.tmp 11), (some 1), none⟩, 127⟩]
def o58_2 : List AOper := [⟨.move (.tmp 0), (some 12), none⟩,
  ⟨.move (.tmp 1), (some 13), none⟩,
  ⟨.bin .geq (.tmp 12) (.tmp 13), (some 14), none⟩]
def o58_3 : List AOper := [⟨.move (.const (.slice none 0 0)), (some 5), none⟩]
def o58_4 : List AOper := [⟨.load none (.tmp 2), (some 15), none⟩,
  ⟨.move (.tmp 0), (some 16), none⟩,
  ⟨.move (.tmp 1), (some 17), none⟩,
  ⟨.slSl 1 (.tmp 15) (some (.tmp 16)) (some (.tmp 17)) none, (some 18), none⟩,
  ⟨.move (.tmp 18), (some 5), none⟩]
def ir58 : AFn := ⟨19, [.tmp 5], (.seq (.ops o58_0) (.seq (.draw d58_1) (.seq (.seq (.ops o58_2) (.cond (.tmp 14) (.seq (.ops o58_3) .ret) .skip)) (.seq (.ops o58_4) .ret))))⟩
theorem ir58_eq : fnsOf Try.prog 58 = some ir58 := by kernel_rfl

/-! F59 math.Inf -/
def o59_0 : List AOper := [⟨.move (.const (.float .f64 0)), (some 2), none⟩]
def o59_1 : List AOper := [⟨.move (.const (.int .u64 0)), (some 3), none⟩]
def o59_2 : List AOper := [⟨.move (.tmp 0), (some 4), none⟩,
  ⟨.bin .geq (.tmp 4) (.const (.int .i64 0)), (some 5), none⟩]
def o59_3 : List AOper := [⟨.move (.const (.int .u64 9218868437227405312)), (some 3), none⟩]
def o59_4 : List AOper := [⟨.move (.const (.int .u64 18442240474082181120)), (some 3), none⟩]
def o59_5 : List AOper := [⟨.move (.tmp 3), (some 6), none⟩,
  ⟨.ext 1 74 [(.tmp 6)], (some 7), none⟩,
  ⟨.move (.tmp 7), (some 2), none⟩]
def ir59 : AFn := ⟨8, [.tmp 2], (.seq (.ops o59_0) (.seq (.ops o59_1) (.seq (.seq (.ops o59_2) (.cond (.tmp 5) (.ops o59_3) (.ops o59_4))) (.seq (.ops o59_5) .ret))))⟩
theorem ir59_eq : fnsOf Try.prog 59 = some ir59 := by kernel_rfl

/-! F60 lookout/lookoutref14.cells -/
def o60_0 : List AOper := [⟨.move (.const (.slice none 0 0)), (some 6), none⟩]
def o60_1 : List AOper := [⟨.move (.const (.slice none 0 0)), (some 7), none⟩]
def o60_2 : List AOper := [⟨.move (.tmp 1), (some 9), none⟩,
  ⟨.bu .max [(.const (.int .i64 0)), (.tmp 9)], (some 10), none⟩,
  ⟨.move (.tmp 10), (some 8), none⟩]
def o60_4 : List AOper := [⟨.move (.tmp 8), (some 11), none⟩,
  ⟨.move (.tmp 2), (some 12), none⟩,
  ⟨.bin .leq (.tmp 11) (.tmp 12), (some 13), none⟩,
  ⟨.move (.tmp 13), (some 14), none⟩,
  ⟨.move (.tmp 8), (some 15), (some (14, true))⟩,
  ⟨.move (.tmp 0), (some 16), (some (14, true))⟩,
  ⟨.bu .len [(.tmp 16)], (some 17), (some (14, true))⟩,
  ⟨.bin .lss (.tmp 15) (.tmp 17), (some 18), (some (14, true))⟩,
  ⟨.pick (.tmp 14) (.tmp 18) (.const (.bool false)), (some 19), none⟩]
def o60_5 : List AOper := [⟨.move (.tmp 7), (some 22), none⟩,
  ⟨.move (.tmp 0), (some 23), none⟩,
  ⟨.move (.tmp 8), (some 24), none⟩,
  ⟨.addrSl 1 (.tmp 23) (.tmp 24), (some 25), none⟩,
  ⟨.load none (.tmp 25), (some 26), none⟩,
  ⟨.buildSlice 24 1 [(.float .f64 0)] 1 [(0, (.tmp 26))], (some 27), none⟩,
  ⟨.append 24 8 1 [(.float .f64 0)] (.tmp 22) (.tmp 27), (some 28), none⟩,
  ⟨.move (.tmp 28), (some 7), none⟩]
def o60_6 : List AOper := [⟨.move (.tmp 8), (some 20), none⟩,
  ⟨.bin .add (.tmp 20) (.const (.int .i64 1)), (some 21), none⟩,
  ⟨.move (.tmp 21), (some 8), none⟩]
def b60_3 : ACode := (.seq (.seq (.ops o60_4) (.cond (.tmp 19) .skip (.exit 0))) (.seq (.block 1 (.ops o60_5)) (.ops o60_6)))
def o60_7 : List AOper := [⟨.move (.tmp 7), (some 29), none⟩,
  ⟨.move (.tmp 29), (some 6), none⟩]
def ir60 : AFn := ⟨30, [.tmp 6], (.seq (.ops o60_0) (.seq (.ops o60_1) (.seq (.seq (.ops o60_2) (.block 0 (.loop b60_3))) (.seq (.ops o60_7) .ret))))⟩
theorem ir60_eq : fnsOf Try.prog 60 = some ir60 := by kernel_rfl

/-! F61 lookout/lookoutref14.mean -/
def o61_0 : List AOper := [⟨.move (.const (.float .f64 0)), (some 2), none⟩]
def o61_1 : List AOper := [⟨.move (.tmp 0), (some 3), none⟩,
  ⟨.call (.func 19) [(.tmp 3)], (some 4), none⟩,
  ⟨.move (.tmp 0), (some 5), none⟩,
  ⟨.bu .len [(.tmp 5)], (some 6), none⟩,
  ⟨.conv (.toFloat .f64) (.tmp 6), (some 7), none⟩,
  ⟨.bin .quo (.tmp 4) (.tmp 7), (some 8), none⟩,
  ⟨.move (.tmp 8), (some 2), none⟩]
def ir61 : AFn := ⟨9, [.tmp 2], (.seq (.ops o61_0) (.seq (.ops o61_1) .ret))⟩
theorem ir61_eq : fnsOf Try.prog 61 = some ir61 := by kernel_rfl

/-! F77 lookout/cfar.made$1 -/
def o77_0 : List AOper := [⟨.box 83 (.tmp 0), (some 1), none⟩,
  ⟨.move (.const (.float .f64 0)), (some 2), none⟩]
def o77_1 : List AOper := [⟨.load (some 3) (.tmp 1), (some 3), none⟩,
  ⟨.call (.func 79) [(.tmp 3)], (some 4), none⟩,
  ⟨.call (.func 78) [(.tmp 4)], (some 5), none⟩,
  ⟨.move (.tmp 5), (some 2), none⟩]
def ir77 : AFn := ⟨6, [.tmp 2], (.seq (.ops o77_0) (.seq (.ops o77_1) .ret))⟩
theorem ir77_eq : fnsOf Try.prog 77 = some ir77 := by kernel_rfl

/-! F78 lookout/cfar.mean -/
def o78_0 : List AOper := [⟨.move (.const (.float .f64 0)), (some 2), none⟩]
def o78_1 : List AOper := [⟨.move (.tmp 0), (some 3), none⟩,
  ⟨.call (.func 18) [(.tmp 3)], (some 4), none⟩,
  ⟨.move (.tmp 0), (some 5), none⟩,
  ⟨.bu .len [(.tmp 5)], (some 6), none⟩,
  ⟨.conv (.toFloat .f64) (.tmp 6), (some 7), none⟩,
  ⟨.bin .quo (.tmp 4) (.tmp 7), (some 8), none⟩,
  ⟨.move (.tmp 8), (some 2), none⟩]
def ir78 : AFn := ⟨9, [.tmp 2], (.seq (.ops o78_0) (.seq (.ops o78_1) .ret))⟩
theorem ir78_eq : fnsOf Try.prog 78 = some ir78 := by kernel_rfl

/-! F79 (lookout/cfar.side).all -/
def o79_0 : List AOper := [⟨.box 83 (.tmp 0), (some 1), none⟩,
  ⟨.move (.const (.slice none 0 0)), (some 2), none⟩]
def d79_1 : List DOper := [⟨⟨.fieldAddr 0 (.tmp 1), (some 3), none⟩, 0⟩,
  ⟨⟨.load none (.tmp 3), (some 4), none⟩, 1⟩,
  ⟨⟨.append 24 8 1 [(.float .f64 0)] (.const (.slice none 0 0)) (.tmp 4), (some 5), none⟩, 3⟩,
  ⟨⟨.fieldAddr 1 (.tmp 1), (some 6), none⟩, 0⟩,
  ⟨⟨.load none (.tmp 6), (some 7), none⟩, 8⟩,
  ⟨⟨.append 24 8 1 [(.float .f64 0)] (.tmp 5) (.tmp 7), (some 8), none⟩, 31⟩,
  ⟨⟨.move (.tmp 8), (some 2), none⟩, 63⟩]
def ir79 : AFn := ⟨9, [.tmp 2], (.seq (.ops o79_0) (.seq (.draw d79_1) .ret))⟩
theorem ir79_eq : fnsOf Try.prog 79 = some ir79 := by kernel_rfl

/-! F80 lookout/cfar.made$2 -/
def o80_0 : List AOper := [⟨.box 83 (.tmp 0), (some 1), none⟩,
  ⟨.move (.const (.float .f64 0)), (some 2), none⟩]
def o80_1 : List AOper := [⟨.load (some 3) (.tmp 1), (some 3), none⟩,
  ⟨.call (.func 81) [(.tmp 3), (.func 82)], (some 4), none⟩,
  ⟨.move (.tmp 4), (some 2), none⟩]
def ir80 : AFn := ⟨5, [.tmp 2], (.seq (.ops o80_0) (.seq (.ops o80_1) .ret))⟩
theorem ir80_eq : fnsOf Try.prog 80 = some ir80 := by kernel_rfl

/-! F81 (lookout/cfar.side).of -/
def o81_0 : List AOper := [⟨.box 83 (.tmp 0), (some 2), none⟩,
  ⟨.move (.const (.float .f64 0)), (some 4), none⟩]
def o81_1 : List AOper := [⟨.fieldAddr 0 (.tmp 2), (some 8), none⟩,
  ⟨.load none (.tmp 8), (some 9), none⟩,
  ⟨.bu .len [(.tmp 9)], (some 10), none⟩,
  ⟨.bin .eql (.tmp 10) (.const (.int .i64 0)), (some 11), none⟩,
  ⟨.move (.tmp 11), (some 7), none⟩]
def o81_2 : List AOper := [⟨.fieldAddr 1 (.tmp 2), (some 12), none⟩,
  ⟨.load none (.tmp 12), (some 13), none⟩,
  ⟨.call (.func 78) [(.tmp 13)], (some 14), none⟩,
  ⟨.move (.tmp 14), (some 4), none⟩]
def o81_3 : List AOper := [⟨.fieldAddr 1 (.tmp 2), (some 16), none⟩,
  ⟨.load none (.tmp 16), (some 17), none⟩,
  ⟨.bu .len [(.tmp 17)], (some 18), none⟩,
  ⟨.bin .eql (.tmp 18) (.const (.int .i64 0)), (some 19), none⟩,
  ⟨.move (.tmp 19), (some 15), none⟩]
def o81_4 : List AOper := [⟨.fieldAddr 0 (.tmp 2), (some 20), none⟩,
  ⟨.load none (.tmp 20), (some 21), none⟩,
  ⟨.call (.func 78) [(.tmp 21)], (some 22), none⟩,
  ⟨.move (.tmp 22), (some 4), none⟩]
def d81_5 : List DOper := [⟨⟨.fieldAddr 0 (.tmp 2), (some 23), none⟩, 0⟩,
  ⟨⟨.load none (.tmp 23), (some 24), none⟩, 1⟩,
  ⟨⟨.call (.func 78) [(.tmp 24)], (some 25), none⟩, 3⟩,
  ⟨⟨.fieldAddr 1 (.tmp 2), (some 26), none⟩, 0⟩,
  ⟨⟨.load none (.tmp 26), (some 27), none⟩, 8⟩,
  ⟨⟨.call (.func 78) [(.tmp 27)], (some 28), none⟩, 31⟩,
  ⟨⟨.move (.tmp 25), (some 5), none⟩, 63⟩,
  ⟨⟨.move (.tmp 28), (some 6), none⟩, 127⟩]
def o81_6 : List AOper := [⟨.move (.tmp 1), (some 29), none⟩,
  ⟨.move (.tmp 6), (some 30), none⟩,
  ⟨.move (.tmp 5), (some 31), none⟩,
  ⟨.call (.tmp 29) [(.tmp 30), (.tmp 31)], (some 32), none⟩]
def o81_7 : List AOper := [⟨.move (.tmp 6), (some 33), none⟩,
  ⟨.move (.tmp 33), (some 4), none⟩]
def o81_8 : List AOper := [⟨.move (.tmp 5), (some 34), none⟩,
  ⟨.move (.tmp 34), (some 4), none⟩]
def ir81 : AFn := ⟨35, [.tmp 4], (.seq (.ops o81_0) (.seq (.block 0 (.seq (.ops o81_1) (.cond (.tmp 7) (.seq (.ops o81_2) .ret) (.seq (.ops o81_3) (.cond (.tmp 15) (.seq (.ops o81_4) .ret) .skip))))) (.seq (.draw d81_5) (.seq (.seq (.ops o81_6) (.cond (.tmp 32) (.seq (.ops o81_7) .ret) .skip)) (.seq (.ops o81_8) .ret)))))⟩
theorem ir81_eq : fnsOf Try.prog 81 = some ir81 := by kernel_rfl

/-! F82 lookout/cfar.made$2$1 -/
def o82_0 : List AOper := [⟨.move (.const (.bool false)), (some 4), none⟩]
def o82_1 : List AOper := [⟨.move (.tmp 0), (some 5), none⟩,
  ⟨.move (.tmp 1), (some 6), none⟩,
  ⟨.bin .gtr (.tmp 5) (.tmp 6), (some 7), none⟩,
  ⟨.move (.tmp 7), (some 4), none⟩]
def ir82 : AFn := ⟨8, [.tmp 4], (.seq (.ops o82_0) (.seq (.ops o82_1) .ret))⟩
theorem ir82_eq : fnsOf Try.prog 82 = some ir82 := by kernel_rfl

/-! F83 lookout/cfar.made$3 -/
def o83_0 : List AOper := [⟨.box 83 (.tmp 0), (some 1), none⟩,
  ⟨.move (.const (.float .f64 0)), (some 2), none⟩]
def o83_1 : List AOper := [⟨.load (some 3) (.tmp 1), (some 3), none⟩,
  ⟨.call (.func 81) [(.tmp 3), (.func 84)], (some 4), none⟩,
  ⟨.move (.tmp 4), (some 2), none⟩]
def ir83 : AFn := ⟨5, [.tmp 2], (.seq (.ops o83_0) (.seq (.ops o83_1) .ret))⟩
theorem ir83_eq : fnsOf Try.prog 83 = some ir83 := by kernel_rfl

/-! F84 lookout/cfar.made$3$1 -/
def o84_0 : List AOper := [⟨.move (.const (.bool false)), (some 4), none⟩]
def o84_1 : List AOper := [⟨.move (.tmp 0), (some 5), none⟩,
  ⟨.move (.tmp 1), (some 6), none⟩,
  ⟨.bin .lss (.tmp 5) (.tmp 6), (some 7), none⟩,
  ⟨.move (.tmp 7), (some 4), none⟩]
def ir84 : AFn := ⟨8, [.tmp 4], (.seq (.ops o84_0) (.seq (.ops o84_1) .ret))⟩
theorem ir84_eq : fnsOf Try.prog 84 = some ir84 := by kernel_rfl

/-! F85 lookout/cfar.made$4 -/
def o85_0 : List AOper := [⟨.box 83 (.tmp 0), (some 1), none⟩,
  ⟨.move (.const (.float .f64 0)), (some 2), none⟩]
def o85_1 : List AOper := [⟨.load (some 3) (.tmp 1), (some 6), none⟩,
  ⟨.call (.func 79) [(.tmp 6)], (some 7), none⟩,
  ⟨.move (.tmp 7), (some 3), none⟩]
def o85_2 : List AOper := [⟨.move (.tmp 3), (some 9), none⟩,
  ⟨.fieldAddr 2 (.tmp 1), (some 10), none⟩,
  ⟨.load none (.tmp 10), (some 11), none⟩,
  ⟨.move (.tmp 3), (some 12), none⟩,
  ⟨.bu .len [(.tmp 12)], (some 13), none⟩,
  ⟨.bin .sub (.tmp 13) (.const (.int .i64 1)), (some 14), none⟩,
  ⟨.bu .min [(.tmp 11), (.tmp 14)], (some 15), none⟩,
  ⟨.call (.func 20) [(.tmp 9), (.tmp 15)], (some 16), none⟩,
  ⟨.move (.tmp 16), (some 8), none⟩,
  ⟨.extract (.tmp 8) 0, (some 17), none⟩,
  ⟨.extract (.tmp 8) 1, (some 18), none⟩,
  ⟨.move (.tmp 17), (some 4), none⟩,
  ⟨.move (.tmp 18), (some 5), none⟩]
def o85_3 : List AOper := [⟨.move (.tmp 4), (some 19), none⟩,
  ⟨.move (.tmp 19), (some 2), none⟩]
def ir85 : AFn := ⟨20, [.tmp 2], (.seq (.ops o85_0) (.seq (.ops o85_1) (.seq (.ops o85_2) (.seq (.ops o85_3) .ret))))⟩
theorem ir85_eq : fnsOf Try.prog 85 = some ir85 := by kernel_rfl


end Go.Proofs.Ytfjdihfflghfpaa
