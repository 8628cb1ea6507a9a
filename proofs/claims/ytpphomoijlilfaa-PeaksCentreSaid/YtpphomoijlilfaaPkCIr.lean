/- The small machine's text of functions of the seat. -/
import Derived.Test.YtpphomoijlilfaaRows
import Derived.Test.YtpphomoijlilfaaVam25
import Derived.KernelRfl
namespace Go.Proofs.Ytpphomoijlilfaa
open Go Go.Vam

/-! F5 lookout/lookoutlaw15.PeaksCentre -/
def o5_0 : List AOper := [⟨.box 37 (.tmp 2), (some 5), none⟩,
  ⟨.move (.const (.bool false)), (some 6), none⟩]
def o5_1 : List AOper := [⟨.move (.tmp 0), (some 11), none⟩,
  ⟨.call (.func 16) [(.tmp 11)], (some 12), none⟩,
  ⟨.move (.tmp 12), (some 7), none⟩]
def o5_2 : List AOper := [⟨.move (.tmp 7), (some 13), none⟩,
  ⟨.move (.tmp 1), (some 14), none⟩,
  ⟨.call (.func 20) [(.tmp 13), (.tmp 14)], (some 15), none⟩,
  ⟨.alloc 39 [(.float .f64 0), (.float .f64 0), (.float .f64 0), (.int .i64 0)], (some 8), none⟩,
  ⟨.store 4 (.tmp 8) (.tmp 15), none, none⟩]
def o5_3 : List AOper := [⟨.move (.tmp 0), (some 16), none⟩,
  ⟨.move (.tmp 1), (some 17), none⟩,
  ⟨.call (.func 21) [(.tmp 16), (.tmp 17)], (some 18), none⟩,
  ⟨.alloc 39 [(.float .f64 0), (.float .f64 0), (.float .f64 0), (.int .i64 0)], (some 9), none⟩,
  ⟨.store 4 (.tmp 9) (.tmp 18), none, none⟩]
def o5_4 : List AOper := [⟨.fieldAddr 0 (.tmp 8), (some 19), none⟩,
  ⟨.load none (.tmp 19), (some 20), none⟩,
  ⟨.fieldAddr 0 (.tmp 9), (some 21), none⟩,
  ⟨.load none (.tmp 21), (some 22), none⟩,
  ⟨.call (.func 22) [(.tmp 20), (.tmp 22)], (some 23), none⟩,
  ⟨.move (.tmp 23), (some 24), none⟩,
  ⟨.fieldAddr 1 (.tmp 8), (some 25), (some (24, true))⟩,
  ⟨.load none (.tmp 25), (some 26), (some (24, true))⟩,
  ⟨.fieldAddr 1 (.tmp 9), (some 27), (some (24, true))⟩,
  ⟨.load none (.tmp 27), (some 28), (some (24, true))⟩,
  ⟨.call (.func 22) [(.tmp 26), (.tmp 28)], (some 29), (some (24, true))⟩,
  ⟨.pick (.tmp 24) (.tmp 29) (.const (.bool false)), (some 30), none⟩,
  ⟨.move (.tmp 30), (some 31), none⟩,
  ⟨.fieldAddr 2 (.tmp 8), (some 32), (some (31, true))⟩,
  ⟨.load none (.tmp 32), (some 33), (some (31, true))⟩,
  ⟨.fieldAddr 2 (.tmp 9), (some 34), (some (31, true))⟩,
  ⟨.load none (.tmp 34), (some 35), (some (31, true))⟩,
  ⟨.call (.func 22) [(.tmp 33), (.tmp 35)], (some 36), (some (31, true))⟩,
  ⟨.pick (.tmp 31) (.tmp 36) (.const (.bool false)), (some 37), none⟩,
  ⟨.move (.tmp 37), (some 38), none⟩,
  ⟨.fieldAddr 3 (.tmp 8), (some 39), (some (38, true))⟩,
  ⟨.load none (.tmp 39), (some 40), (some (38, true))⟩,
  ⟨.fieldAddr 3 (.tmp 9), (some 41), (some (38, true))⟩,
  ⟨.load none (.tmp 41), (some 42), (some (38, true))⟩,
  ⟨.bin .eql (.tmp 40) (.tmp 42), (some 43), (some (38, true))⟩,
  ⟨.pick (.tmp 38) (.tmp 43) (.const (.bool false)), (some 44), none⟩,
  ⟨.move (.tmp 44), (some 10), none⟩]
def d5_5 : List DOper := [⟨⟨.move (.tmp 10), (some 45), none⟩, 0⟩,
  ⟨⟨.move (.tmp 45), (some 46), none⟩, 1⟩,
  ⟨⟨.move (.tmp 7), (some 47), (some (46, true))⟩, 3⟩,
  ⟨⟨.move (.tmp 0), (some 48), (some (46, true))⟩, 3⟩,
  ⟨⟨.call (.func 19) [(.tmp 47), (.tmp 48)], (some 49), (some (46, true))⟩, 15⟩,
  ⟨⟨.pick (.tmp 46) (.tmp 49) (.const (.bool false)), (some 50), none⟩, 31⟩,
  ⟨⟨.move (.tmp 50), (some 51), none⟩, 63⟩,
  ⟨⟨.addrArr 3 1 (.tmp 5) (.const (.int .i64 0)), (some 52), (some (51, true))⟩, 127⟩,
  ⟨⟨.load none (.tmp 52), (some 53), (some (51, true))⟩, 255⟩,
  ⟨⟨.addrArr 3 1 (.tmp 5) (.const (.int .i64 1)), (some 54), (some (51, true))⟩, 127⟩,
  ⟨⟨.load none (.tmp 54), (some 55), (some (51, true))⟩, 639⟩,
  ⟨⟨.addrArr 3 1 (.tmp 5) (.const (.int .i64 2)), (some 56), (some (51, true))⟩, 127⟩,
  ⟨⟨.load none (.tmp 56), (some 57), (some (51, true))⟩, 2175⟩,
  ⟨⟨.call (.func 23) [(.tmp 53), (.tmp 55), (.tmp 57)], (some 58), (some (51, true))⟩, 8191⟩,
  ⟨⟨.addrArr 3 1 (.tmp 5) (.const (.int .i64 0)), (some 59), (some (51, true))⟩, 127⟩,
  ⟨⟨.load none (.tmp 59), (some 60), (some (51, true))⟩, 16511⟩,
  ⟨⟨.addrArr 3 1 (.tmp 5) (.const (.int .i64 1)), (some 61), (some (51, true))⟩, 127⟩,
  ⟨⟨.load none (.tmp 61), (some 62), (some (51, true))⟩, 65663⟩,
  ⟨⟨.addrArr 3 1 (.tmp 5) (.const (.int .i64 2)), (some 63), (some (51, true))⟩, 127⟩,
  ⟨⟨.load none (.tmp 63), (some 64), (some (51, true))⟩, 262271⟩,
  ⟨⟨.call (.func 24) [(.tmp 60), (.tmp 62), (.tmp 64)], (some 65), (some (51, true))⟩, 1048575⟩,
  ⟨⟨.call (.func 22) [(.tmp 58), (.tmp 65)], (some 66), (some (51, true))⟩, 2097151⟩,
  ⟨⟨.pick (.tmp 51) (.tmp 66) (.const (.bool false)), (some 67), none⟩, 4194303⟩,
  ⟨⟨.move (.tmp 67), (some 68), none⟩, 8388607⟩,
  ⟨⟨.call (.func 15) [], (some 69), (some (68, true))⟩, 16777215⟩,
  ⟨⟨.pick (.tmp 68) (.tmp 69) (.const (.bool false)), (some 70), none⟩, 33554431⟩,
  ⟨⟨.move (.tmp 70), (some 6), none⟩, 67108863⟩]
def ir5 : AFn := ⟨71, [.tmp 6], (.seq (.ops o5_0) (.seq (.ops o5_1) (.seq (.ops o5_2) (.seq (.ops o5_3) (.seq (.ops o5_4) (.seq (.draw d5_5) .ret))))))⟩
theorem ir5_eq : fnsOf Try.prog 5 = some ir5 := by kernel_rfl

/-! F16 lookout/lookoutlaw15.lent -/
def o16_0 : List AOper := [⟨.move (.const (.slice none 0 0)), (some 2), none⟩]
def o16_1 : List AOper := [⟨.buildSlice 29 3 [(.int .i64 0), (.int .i64 0), (.float .f64 0)] 0 [], (some 4), none⟩,
  ⟨.move (.tmp 0), (some 5), none⟩,
  ⟨.append 29 24 3 [(.int .i64 0), (.int .i64 0), (.float .f64 0)] (.tmp 4) (.tmp 5), (some 6), none⟩,
  ⟨.build [(.int .i64 0), (.int .i64 0), (.float .f64 0)] [(0, 1, (.const (.int .i64 77)))], (some 7), none⟩,
  ⟨.buildSlice 29 3 [(.int .i64 0), (.int .i64 0), (.float .f64 0)] 1 [(0, (.tmp 7))], (some 8), none⟩,
  ⟨.append 29 24 3 [(.int .i64 0), (.int .i64 0), (.float .f64 0)] (.tmp 6) (.tmp 8), (some 9), none⟩,
  ⟨.move (.tmp 9), (some 3), none⟩]
def o16_2 : List AOper := [⟨.move (.tmp 3), (some 10), none⟩,
  ⟨.move (.tmp 0), (some 11), none⟩,
  ⟨.bu .len [(.tmp 11)], (some 12), none⟩,
  ⟨.slSl 3 (.tmp 10) none (some (.tmp 12)) none, (some 13), none⟩,
  ⟨.move (.tmp 13), (some 2), none⟩]
def ir16 : AFn := ⟨14, [.tmp 2], (.seq (.ops o16_0) (.seq (.ops o16_1) (.seq (.ops o16_2) .ret)))⟩
theorem ir16_eq : fnsOf Try.prog 16 = some ir16 := by kernel_rfl

/-! F19 lookout/lookoutlaw15.kept -/
def o19_0 : List AOper := [⟨.move (.const (.bool false)), (some 4), none⟩]
def o19_1 : List AOper := [⟨.move (.tmp 0), (some 5), none⟩,
  ⟨.move (.tmp 1), (some 6), none⟩,
  ⟨.call (.func 13) [(.tmp 5), (.tmp 6)], (some 7), none⟩,
  ⟨.move (.tmp 7), (some 8), none⟩,
  ⟨.move (.tmp 0), (some 9), (some (8, true))⟩,
  ⟨.move (.tmp 1), (some 10), (some (8, true))⟩,
  ⟨.bu .len [(.tmp 10)], (some 11), (some (8, true))⟩,
  ⟨.bin .add (.tmp 11) (.const (.int .i64 1)), (some 12), (some (8, true))⟩,
  ⟨.slSl 3 (.tmp 9) none (some (.tmp 12)) none, (some 13), (some (8, true))⟩,
  ⟨.move (.tmp 1), (some 14), (some (8, true))⟩,
  ⟨.bu .len [(.tmp 14)], (some 15), (some (8, true))⟩,
  ⟨.addrSl 3 (.tmp 13) (.tmp 15), (some 16), (some (8, true))⟩,
  ⟨.fieldAddr 0 (.tmp 16), (some 17), (some (8, true))⟩,
  ⟨.load none (.tmp 17), (some 18), (some (8, true))⟩,
  ⟨.bin .eql (.tmp 18) (.const (.int .i64 77)), (some 19), (some (8, true))⟩,
  ⟨.pick (.tmp 8) (.tmp 19) (.const (.bool false)), (some 20), none⟩,
  ⟨.move (.tmp 20), (some 4), none⟩]
def ir19 : AFn := ⟨21, [.tmp 4], (.seq (.ops o19_0) (.seq (.ops o19_1) .ret))⟩
theorem ir19_eq : fnsOf Try.prog 19 = some ir19 := by kernel_rfl

/-! F20 lookout/peaks.Centre -/
def o20_0 : List AOper := [⟨.alloc 39 [(.float .f64 0), (.float .f64 0), (.float .f64 0), (.int .i64 0)], (some 4), none⟩]
def o20_1 : List AOper := [⟨.move (.tmp 0), (some 20), none⟩,
  ⟨.bu .len [(.tmp 20)], (some 21), none⟩,
  ⟨.bin .eql (.tmp 21) (.const (.int .i64 0)), (some 22), none⟩]
def o20_2 : List AOper := [⟨.build [(.float .f64 0), (.float .f64 0), (.float .f64 0), (.int .i64 0)] [], (some 23), none⟩,
  ⟨.store 4 (.tmp 4) (.tmp 23), none, none⟩]
def o20_3 : List AOper := [⟨.move (.tmp 1), (some 24), none⟩,
  ⟨.call (.func 43) [(.tmp 24), (.const (.int .i64 0)), (.const (.int .i64 1073741824))], (some 25), none⟩,
  ⟨.move (.tmp 25), (some 1), none⟩]
def o20_4 : List AOper := [⟨.move (.const (.int .i64 0)), (some 5), none⟩,
  ⟨.move (.const (.float .f64 0)), (some 6), none⟩]
def o20_5 : List AOper := [⟨.move (.tmp 0), (some 26), none⟩,
  ⟨.bu .len [(.tmp 26)], (some 27), none⟩,
  ⟨.move (.const (.int .i64 0)), (some 28), none⟩]
def o20_7 : List AOper := [⟨.bin .lss (.tmp 28) (.tmp 27), (some 29), none⟩]
def o20_8 : List AOper := [⟨.move (.tmp 28), (some 30), none⟩,
  ⟨.addrSl 3 (.tmp 26) (.tmp 28), (some 31), none⟩,
  ⟨.load (some 3) (.tmp 31), (some 32), none⟩,
  ⟨.alloc 29 [(.int .i64 0), (.int .i64 0), (.float .f64 0)], (some 8), none⟩,
  ⟨.move (.tmp 30), (some 7), none⟩,
  ⟨.store 3 (.tmp 8) (.tmp 32), none, none⟩]
def o20_9 : List AOper := [⟨.move (.tmp 0), (some 33), none⟩,
  ⟨.move (.tmp 5), (some 34), none⟩,
  ⟨.addrSl 3 (.tmp 33) (.tmp 34), (some 35), none⟩,
  ⟨.fieldAddr 2 (.tmp 35), (some 36), none⟩,
  ⟨.load none (.tmp 36), (some 37), none⟩,
  ⟨.move (.tmp 37), (some 9), none⟩]
def o20_10 : List AOper := [⟨.fieldAddr 2 (.tmp 8), (some 38), none⟩,
  ⟨.load none (.tmp 38), (some 39), none⟩,
  ⟨.move (.tmp 9), (some 40), none⟩,
  ⟨.bin .gtr (.tmp 39) (.tmp 40), (some 41), none⟩,
  ⟨.move (.tmp 41), (some 42), none⟩,
  ⟨.move (.tmp 9), (some 43), (some (42, false))⟩,
  ⟨.move (.tmp 9), (some 44), (some (42, false))⟩,
  ⟨.bin .neq (.tmp 43) (.tmp 44), (some 45), (some (42, false))⟩,
  ⟨.move (.tmp 45), (some 46), (some (42, false))⟩,
  ⟨.fieldAddr 2 (.tmp 8), (some 47), (some (46, true))⟩,
  ⟨.load none (.tmp 47), (some 48), (some (46, true))⟩,
  ⟨.fieldAddr 2 (.tmp 8), (some 49), (some (46, true))⟩,
  ⟨.load none (.tmp 49), (some 50), (some (46, true))⟩,
  ⟨.bin .eql (.tmp 48) (.tmp 50), (some 51), (some (46, true))⟩,
  ⟨.pick (.tmp 46) (.tmp 51) (.const (.bool false)), (some 52), (some (42, false))⟩,
  ⟨.pick (.tmp 42) (.const (.bool true)) (.tmp 52), (some 53), none⟩]
def o20_11 : List AOper := [⟨.move (.tmp 7), (some 54), none⟩,
  ⟨.move (.tmp 54), (some 5), none⟩]
def o20_12 : List AOper := [⟨.move (.tmp 6), (some 55), none⟩,
  ⟨.fieldAddr 2 (.tmp 8), (some 56), none⟩,
  ⟨.load none (.tmp 56), (some 57), none⟩,
  ⟨.bin .add (.tmp 55) (.tmp 57), (some 58), none⟩,
  ⟨.move (.tmp 58), (some 6), none⟩]
def o20_13 : List AOper := [⟨.move (.tmp 7), (some 59), none⟩,
  ⟨.bin .eql (.tmp 59) (.const (.int .i64 0)), (some 60), none⟩]
def o20_14 : List AOper := [⟨.fieldAddr 2 (.tmp 8), (some 61), none⟩,
  ⟨.load none (.tmp 61), (some 62), none⟩,
  ⟨.move (.tmp 62), (some 6), none⟩]
def o20_15 : List AOper := [⟨.bin .add (.tmp 28) (.const (.int .i64 1)), (some 63), none⟩,
  ⟨.move (.tmp 63), (some 28), none⟩]
def b20_6 : ACode := (.seq (.ops o20_7) (.seq (.cond (.tmp 29) .skip (.exit 0)) (.seq (.block 1 (.seq (.ops o20_8) (.seq (.seq (.ops o20_9) (.seq (.ops o20_10) (.cond (.tmp 53) (.ops o20_11) .skip))) (.seq (.ops o20_12) (.seq (.ops o20_13) (.cond (.tmp 60) (.ops o20_14) .skip)))))) (.ops o20_15))))
def d20_16 : List DOper := [⟨⟨.move (.tmp 0), (some 64), none⟩, 0⟩,
  ⟨⟨.move (.tmp 5), (some 65), none⟩, 0⟩,
  ⟨⟨.addrSl 3 (.tmp 64) (.tmp 65), (some 66), none⟩, 3⟩,
  ⟨⟨.fieldAddr 0 (.tmp 66), (some 67), none⟩, 7⟩,
  ⟨⟨.load none (.tmp 67), (some 68), none⟩, 15⟩,
  ⟨⟨.call (.func 43) [(.tmp 68), (.const (.int .i64 (-1073741824))), (.const (.int .i64 1073741824))], (some 69), none⟩, 31⟩,
  ⟨⟨.move (.tmp 0), (some 70), none⟩, 0⟩,
  ⟨⟨.move (.tmp 5), (some 71), none⟩, 0⟩,
  ⟨⟨.addrSl 3 (.tmp 70) (.tmp 71), (some 72), none⟩, 192⟩,
  ⟨⟨.fieldAddr 1 (.tmp 72), (some 73), none⟩, 448⟩,
  ⟨⟨.load none (.tmp 73), (some 74), none⟩, 960⟩,
  ⟨⟨.call (.func 43) [(.tmp 74), (.const (.int .i64 (-1073741824))), (.const (.int .i64 1073741824))], (some 75), none⟩, 2047⟩,
  ⟨⟨.move (.tmp 69), (some 10), none⟩, 4095⟩,
  ⟨⟨.move (.tmp 75), (some 11), none⟩, 8191⟩]
def o20_17 : List AOper := [⟨.move (.tmp 10), (some 76), none⟩,
  ⟨.conv (.toFloat .f64) (.tmp 76), (some 77), none⟩,
  ⟨.move (.tmp 11), (some 78), none⟩,
  ⟨.conv (.toFloat .f64) (.tmp 78), (some 79), none⟩,
  ⟨.move (.tmp 6), (some 80), none⟩,
  ⟨.move (.tmp 0), (some 81), none⟩,
  ⟨.bu .len [(.tmp 81)], (some 82), none⟩,
  ⟨.build [(.float .f64 0), (.float .f64 0), (.float .f64 0), (.int .i64 0)] [(0, 1, (.tmp 77)), (1, 1, (.tmp 79)), (2, 1, (.tmp 80)), (3, 1, (.tmp 82))], (some 83), none⟩,
  ⟨.alloc 39 [(.float .f64 0), (.float .f64 0), (.float .f64 0), (.int .i64 0)], (some 12), none⟩,
  ⟨.store 4 (.tmp 12) (.tmp 83), none, none⟩]
def o20_18 : List AOper := [⟨.move (.tmp 6), (some 84), none⟩,
  ⟨.bin .gtr (.tmp 84) (.const (.float .f64 0)), (some 85), none⟩,
  ⟨.un .not (.tmp 85), (some 86), none⟩,
  ⟨.move (.tmp 86), (some 87), none⟩,
  ⟨.move (.tmp 6), (some 88), (some (87, false))⟩,
  ⟨.call (.func 44) [(.tmp 88), (.const (.int .i64 1))], (some 89), (some (87, false))⟩,
  ⟨.pick (.tmp 87) (.const (.bool true)) (.tmp 89), (some 90), none⟩]
def o20_19 : List AOper := [⟨.load (some 4) (.tmp 12), (some 91), none⟩,
  ⟨.store 4 (.tmp 4) (.tmp 91), none, none⟩]
def o20_20 : List AOper := [⟨.alloc 69 [(.float .f64 0), (.float .f64 0)], (some 13), none⟩]
def o20_21 : List AOper := [⟨.move (.tmp 0), (some 92), none⟩,
  ⟨.bu .len [(.tmp 92)], (some 93), none⟩,
  ⟨.move (.const (.int .i64 0)), (some 94), none⟩]
def o20_23 : List AOper := [⟨.bin .lss (.tmp 94) (.tmp 93), (some 95), none⟩]
def o20_24 : List AOper := [⟨.move (.tmp 94), (some 96), none⟩,
  ⟨.addrSl 3 (.tmp 92) (.tmp 94), (some 97), none⟩,
  ⟨.load (some 3) (.tmp 97), (some 98), none⟩,
  ⟨.alloc 29 [(.int .i64 0), (.int .i64 0), (.float .f64 0)], (some 15), none⟩,
  ⟨.move (.tmp 96), (some 14), none⟩,
  ⟨.store 3 (.tmp 15) (.tmp 98), none, none⟩]
def d20_25 : List DOper := [⟨⟨.fieldAddr 0 (.tmp 15), (some 99), none⟩, 0⟩,
  ⟨⟨.load none (.tmp 99), (some 100), none⟩, 1⟩,
  ⟨⟨.call (.func 43) [(.tmp 100), (.const (.int .i64 (-1073741824))), (.const (.int .i64 1073741824))], (some 101), none⟩, 3⟩,
  ⟨⟨.move (.tmp 10), (some 102), none⟩, 0⟩,
  ⟨⟨.bin .sub (.tmp 101) (.tmp 102), (some 103), none⟩, 15⟩,
  ⟨⟨.fieldAddr 1 (.tmp 15), (some 104), none⟩, 0⟩,
  ⟨⟨.load none (.tmp 104), (some 105), none⟩, 32⟩,
  ⟨⟨.call (.func 43) [(.tmp 105), (.const (.int .i64 (-1073741824))), (.const (.int .i64 1073741824))], (some 106), none⟩, 103⟩,
  ⟨⟨.move (.tmp 11), (some 107), none⟩, 0⟩,
  ⟨⟨.bin .sub (.tmp 106) (.tmp 107), (some 108), none⟩, 487⟩,
  ⟨⟨.move (.tmp 103), (some 16), none⟩, 255⟩,
  ⟨⟨.move (.tmp 108), (some 17), none⟩, 2047⟩]
def o20_26 : List AOper := [⟨.move (.tmp 1), (some 109), none⟩,
  ⟨.bin .gtr (.tmp 109) (.const (.int .i64 0)), (some 110), none⟩,
  ⟨.move (.tmp 110), (some 111), none⟩,
  ⟨.move (.tmp 16), (some 112), (some (111, true))⟩,
  ⟨.bin .mul (.const (.int .i64 2)) (.tmp 112), (some 113), (some (111, true))⟩,
  ⟨.move (.tmp 1), (some 114), (some (111, true))⟩,
  ⟨.bin .gtr (.tmp 113) (.tmp 114), (some 115), (some (111, true))⟩,
  ⟨.pick (.tmp 111) (.tmp 115) (.const (.bool false)), (some 116), none⟩]
def o20_27 : List AOper := [⟨.move (.tmp 16), (some 117), none⟩,
  ⟨.move (.tmp 1), (some 118), none⟩,
  ⟨.bin .sub (.tmp 117) (.tmp 118), (some 119), none⟩,
  ⟨.move (.tmp 119), (some 16), none⟩]
def o20_28 : List AOper := [⟨.move (.tmp 1), (some 120), none⟩,
  ⟨.bin .gtr (.tmp 120) (.const (.int .i64 0)), (some 121), none⟩,
  ⟨.move (.tmp 121), (some 122), none⟩,
  ⟨.move (.tmp 16), (some 123), (some (122, true))⟩,
  ⟨.bin .mul (.const (.int .i64 2)) (.tmp 123), (some 124), (some (122, true))⟩,
  ⟨.move (.tmp 1), (some 125), (some (122, true))⟩,
  ⟨.un .neg (.tmp 125), (some 126), (some (122, true))⟩,
  ⟨.bin .leq (.tmp 124) (.tmp 126), (some 127), (some (122, true))⟩,
  ⟨.pick (.tmp 122) (.tmp 127) (.const (.bool false)), (some 128), none⟩]
def o20_29 : List AOper := [⟨.move (.tmp 16), (some 129), none⟩,
  ⟨.move (.tmp 1), (some 130), none⟩,
  ⟨.bin .add (.tmp 129) (.tmp 130), (some 131), none⟩,
  ⟨.move (.tmp 131), (some 16), none⟩]
def d20_30 : List DOper := [⟨⟨.fieldAddr 2 (.tmp 15), (some 132), none⟩, 0⟩,
  ⟨⟨.load none (.tmp 132), (some 133), none⟩, 1⟩,
  ⟨⟨.move (.tmp 16), (some 134), none⟩, 0⟩,
  ⟨⟨.conv (.toFloat .f64) (.tmp 134), (some 135), none⟩, 4⟩,
  ⟨⟨.bin .mul (.tmp 133) (.tmp 135), (some 136), none⟩, 15⟩,
  ⟨⟨.fieldAddr 2 (.tmp 15), (some 137), none⟩, 0⟩,
  ⟨⟨.load none (.tmp 137), (some 138), none⟩, 32⟩,
  ⟨⟨.move (.tmp 17), (some 139), none⟩, 0⟩,
  ⟨⟨.conv (.toFloat .f64) (.tmp 139), (some 140), none⟩, 128⟩,
  ⟨⟨.bin .mul (.tmp 138) (.tmp 140), (some 141), none⟩, 480⟩,
  ⟨⟨.move (.tmp 136), (some 18), none⟩, 31⟩,
  ⟨⟨.move (.tmp 141), (some 19), none⟩, 2047⟩]
def o20_31 : List AOper := [⟨.move (.tmp 14), (some 142), none⟩,
  ⟨.bin .eql (.tmp 142) (.const (.int .i64 0)), (some 143), none⟩]
def o20_32 : List AOper := [⟨.move (.tmp 18), (some 144), none⟩,
  ⟨.move (.tmp 19), (some 145), none⟩,
  ⟨.build [(.float .f64 0), (.float .f64 0)] [(0, 1, (.tmp 144)), (1, 1, (.tmp 145))], (some 146), none⟩,
  ⟨.store 2 (.tmp 13) (.tmp 146), none, none⟩]
def o20_33 : List AOper := [⟨.addrArr 2 1 (.tmp 13) (.const (.int .i64 0)), (some 147), none⟩,
  ⟨.load none (.tmp 147), (some 148), none⟩,
  ⟨.move (.tmp 18), (some 149), none⟩,
  ⟨.bin .add (.tmp 148) (.tmp 149), (some 150), none⟩,
  ⟨.addrArr 2 1 (.tmp 13) (.const (.int .i64 0)), (some 151), none⟩,
  ⟨.store 1 (.tmp 151) (.tmp 150), none, none⟩]
def o20_34 : List AOper := [⟨.addrArr 2 1 (.tmp 13) (.const (.int .i64 1)), (some 152), none⟩,
  ⟨.load none (.tmp 152), (some 153), none⟩,
  ⟨.move (.tmp 19), (some 154), none⟩,
  ⟨.bin .add (.tmp 153) (.tmp 154), (some 155), none⟩,
  ⟨.addrArr 2 1 (.tmp 13) (.const (.int .i64 1)), (some 156), none⟩,
  ⟨.store 1 (.tmp 156) (.tmp 155), none, none⟩]
def o20_35 : List AOper := [⟨.bin .add (.tmp 94) (.const (.int .i64 1)), (some 157), none⟩,
  ⟨.move (.tmp 157), (some 94), none⟩]
def b20_22 : ACode := (.seq (.ops o20_23) (.seq (.cond (.tmp 95) .skip (.exit 2)) (.seq (.block 3 (.seq (.ops o20_24) (.seq (.draw d20_25) (.seq (.seq (.ops o20_26) (.cond (.tmp 116) (.ops o20_27) (.seq (.ops o20_28) (.cond (.tmp 128) (.ops o20_29) .skip)))) (.seq (.draw d20_30) (.seq (.seq (.ops o20_31) (.cond (.tmp 143) (.seq (.ops o20_32) (.exit 3)) .skip)) (.seq (.ops o20_33) (.ops o20_34)))))))) (.ops o20_35))))
def o20_36 : List AOper := [⟨.fieldAddr 0 (.tmp 12), (some 158), none⟩,
  ⟨.load none (.tmp 158), (some 159), none⟩,
  ⟨.addrArr 2 1 (.tmp 13) (.const (.int .i64 0)), (some 160), none⟩,
  ⟨.load none (.tmp 160), (some 161), none⟩,
  ⟨.move (.tmp 6), (some 162), none⟩,
  ⟨.bin .quo (.tmp 161) (.tmp 162), (some 163), none⟩,
  ⟨.bin .add (.tmp 159) (.tmp 163), (some 164), none⟩,
  ⟨.fieldAddr 0 (.tmp 12), (some 165), none⟩,
  ⟨.store 1 (.tmp 165) (.tmp 164), none, none⟩]
def o20_37 : List AOper := [⟨.fieldAddr 1 (.tmp 12), (some 166), none⟩,
  ⟨.load none (.tmp 166), (some 167), none⟩,
  ⟨.addrArr 2 1 (.tmp 13) (.const (.int .i64 1)), (some 168), none⟩,
  ⟨.load none (.tmp 168), (some 169), none⟩,
  ⟨.move (.tmp 6), (some 170), none⟩,
  ⟨.bin .quo (.tmp 169) (.tmp 170), (some 171), none⟩,
  ⟨.bin .add (.tmp 167) (.tmp 171), (some 172), none⟩,
  ⟨.fieldAddr 1 (.tmp 12), (some 173), none⟩,
  ⟨.store 1 (.tmp 173) (.tmp 172), none, none⟩]
def o20_38 : List AOper := [⟨.move (.tmp 1), (some 175), none⟩,
  ⟨.bin .gtr (.tmp 175) (.const (.int .i64 0)), (some 176), none⟩,
  ⟨.move (.tmp 176), (some 177), none⟩,
  ⟨.fieldAddr 0 (.tmp 12), (some 178), (some (177, true))⟩,
  ⟨.load none (.tmp 178), (some 179), (some (177, true))⟩,
  ⟨.bin .lss (.tmp 179) (.const (.float .f64 0)), (some 180), (some (177, true))⟩,
  ⟨.pick (.tmp 177) (.tmp 180) (.const (.bool false)), (some 181), none⟩,
  ⟨.move (.tmp 181), (some 174), none⟩]
def o20_39 : List AOper := [⟨.fieldAddr 0 (.tmp 12), (some 182), none⟩,
  ⟨.load none (.tmp 182), (some 183), none⟩,
  ⟨.move (.tmp 1), (some 184), none⟩,
  ⟨.conv (.toFloat .f64) (.tmp 184), (some 185), none⟩,
  ⟨.bin .add (.tmp 183) (.tmp 185), (some 186), none⟩,
  ⟨.fieldAddr 0 (.tmp 12), (some 187), none⟩,
  ⟨.store 1 (.tmp 187) (.tmp 186), none, none⟩]
def o20_40 : List AOper := [⟨.move (.tmp 1), (some 189), none⟩,
  ⟨.bin .gtr (.tmp 189) (.const (.int .i64 0)), (some 190), none⟩,
  ⟨.move (.tmp 190), (some 191), none⟩,
  ⟨.fieldAddr 0 (.tmp 12), (some 192), (some (191, true))⟩,
  ⟨.load none (.tmp 192), (some 193), (some (191, true))⟩,
  ⟨.move (.tmp 1), (some 194), (some (191, true))⟩,
  ⟨.conv (.toFloat .f64) (.tmp 194), (some 195), (some (191, true))⟩,
  ⟨.bin .geq (.tmp 193) (.tmp 195), (some 196), (some (191, true))⟩,
  ⟨.pick (.tmp 191) (.tmp 196) (.const (.bool false)), (some 197), none⟩,
  ⟨.move (.tmp 197), (some 188), none⟩]
def o20_41 : List AOper := [⟨.fieldAddr 0 (.tmp 12), (some 198), none⟩,
  ⟨.load none (.tmp 198), (some 199), none⟩,
  ⟨.move (.tmp 1), (some 200), none⟩,
  ⟨.conv (.toFloat .f64) (.tmp 200), (some 201), none⟩,
  ⟨.bin .sub (.tmp 199) (.tmp 201), (some 202), none⟩,
  ⟨.fieldAddr 0 (.tmp 12), (some 203), none⟩,
  ⟨.store 1 (.tmp 203) (.tmp 202), none, none⟩]
def o20_42 : List AOper := [⟨.load (some 4) (.tmp 12), (some 204), none⟩,
  ⟨.store 4 (.tmp 4) (.tmp 204), none, none⟩]
def ir20 : AFn := ⟨205, [.cell 4 (some 4)], (.seq (.ops o20_0) (.seq (.seq (.ops o20_1) (.cond (.tmp 22) (.seq (.ops o20_2) .ret) .skip)) (.seq (.ops o20_3) (.seq (.ops o20_4) (.seq (.seq (.ops o20_5) (.block 0 (.loop b20_6))) (.seq (.draw d20_16) (.seq (.ops o20_17) (.seq (.seq (.ops o20_18) (.cond (.tmp 90) (.seq (.ops o20_19) .ret) .skip)) (.seq (.ops o20_20) (.seq (.seq (.ops o20_21) (.block 2 (.loop b20_22))) (.seq (.ops o20_36) (.seq (.ops o20_37) (.seq (.block 4 (.seq (.ops o20_38) (.cond (.tmp 174) (.ops o20_39) (.seq (.ops o20_40) (.cond (.tmp 188) (.ops o20_41) .skip))))) (.seq (.ops o20_42) .ret))))))))))))))⟩
theorem ir20_eq : fnsOf Try.prog 20 = some ir20 := by kernel_rfl

/-! F21 lookout/lookoutref15.Centre -/
def o21_0 : List AOper := [⟨.alloc 39 [(.float .f64 0), (.float .f64 0), (.float .f64 0), (.int .i64 0)], (some 4), none⟩]
def o21_1 : List AOper := [⟨.move (.tmp 0), (some 19), none⟩,
  ⟨.bu .len [(.tmp 19)], (some 20), none⟩,
  ⟨.bin .eql (.tmp 20) (.const (.int .i64 0)), (some 21), none⟩]
def o21_2 : List AOper := [⟨.build [(.float .f64 0), (.float .f64 0), (.float .f64 0), (.int .i64 0)] [], (some 22), none⟩,
  ⟨.store 4 (.tmp 4) (.tmp 22), none, none⟩]
def o21_3 : List AOper := [⟨.move (.tmp 1), (some 23), none⟩,
  ⟨.call (.func 45) [(.tmp 23), (.const (.int .i64 0)), (.const (.int .i64 1073741824))], (some 24), none⟩,
  ⟨.move (.tmp 24), (some 5), none⟩]
def o21_4 : List AOper := [⟨.move (.const (.slice none 0 0)), (some 6), none⟩]
def o21_5 : List AOper := [⟨.move (.const (.slice none 0 0)), (some 7), none⟩]
def o21_6 : List AOper := [⟨.move (.const (.int .i64 0)), (some 8), none⟩]
def o21_7 : List AOper := [⟨.move (.const (.int .i64 0)), (some 9), none⟩]
def o21_9 : List AOper := [⟨.move (.tmp 9), (some 25), none⟩,
  ⟨.move (.tmp 0), (some 26), none⟩,
  ⟨.bu .len [(.tmp 26)], (some 27), none⟩,
  ⟨.bin .lss (.tmp 25) (.tmp 27), (some 28), none⟩]
def d21_10 : List DOper := [⟨⟨.move (.tmp 6), (some 31), none⟩, 0⟩,
  ⟨⟨.move (.tmp 0), (some 32), none⟩, 0⟩,
  ⟨⟨.move (.tmp 9), (some 33), none⟩, 0⟩,
  ⟨⟨.addrSl 3 (.tmp 32) (.tmp 33), (some 34), none⟩, 6⟩,
  ⟨⟨.fieldAddr 0 (.tmp 34), (some 35), none⟩, 14⟩,
  ⟨⟨.load none (.tmp 35), (some 36), none⟩, 30⟩,
  ⟨⟨.call (.func 45) [(.tmp 36), (.const (.int .i64 (-1073741824))), (.const (.int .i64 1073741824))], (some 37), none⟩, 62⟩,
  ⟨⟨.move (.tmp 0), (some 38), none⟩, 0⟩,
  ⟨⟨.move (.tmp 9), (some 39), none⟩, 0⟩,
  ⟨⟨.addrSl 3 (.tmp 38) (.tmp 39), (some 40), none⟩, 384⟩,
  ⟨⟨.fieldAddr 1 (.tmp 40), (some 41), none⟩, 896⟩,
  ⟨⟨.load none (.tmp 41), (some 42), none⟩, 1920⟩,
  ⟨⟨.call (.func 45) [(.tmp 42), (.const (.int .i64 (-1073741824))), (.const (.int .i64 1073741824))], (some 43), none⟩, 4094⟩,
  ⟨⟨.move (.tmp 0), (some 44), none⟩, 0⟩,
  ⟨⟨.move (.tmp 9), (some 45), none⟩, 0⟩,
  ⟨⟨.addrSl 3 (.tmp 44) (.tmp 45), (some 46), none⟩, 24576⟩,
  ⟨⟨.fieldAddr 2 (.tmp 46), (some 47), none⟩, 57344⟩,
  ⟨⟨.load none (.tmp 47), (some 48), none⟩, 122880⟩,
  ⟨⟨.build [(.int .i64 0), (.int .i64 0), (.float .f64 0)] [(0, 1, (.tmp 37)), (1, 1, (.tmp 43)), (2, 1, (.tmp 48))], (some 49), none⟩, 262142⟩,
  ⟨⟨.buildSlice 29 3 [(.int .i64 0), (.int .i64 0), (.float .f64 0)] 1 [(0, (.tmp 49))], (some 50), none⟩, 524286⟩,
  ⟨⟨.append 29 24 3 [(.int .i64 0), (.int .i64 0), (.float .f64 0)] (.tmp 31) (.tmp 50), (some 51), none⟩, 1048575⟩,
  ⟨⟨.move (.tmp 51), (some 6), none⟩, 2097151⟩]
def o21_11 : List AOper := [⟨.move (.tmp 7), (some 52), none⟩,
  ⟨.move (.tmp 0), (some 53), none⟩,
  ⟨.move (.tmp 9), (some 54), none⟩,
  ⟨.addrSl 3 (.tmp 53) (.tmp 54), (some 55), none⟩,
  ⟨.fieldAddr 2 (.tmp 55), (some 56), none⟩,
  ⟨.load none (.tmp 56), (some 57), none⟩,
  ⟨.buildSlice 24 1 [(.float .f64 0)] 1 [(0, (.tmp 57))], (some 58), none⟩,
  ⟨.append 24 8 1 [(.float .f64 0)] (.tmp 52) (.tmp 58), (some 59), none⟩,
  ⟨.move (.tmp 59), (some 7), none⟩]
def d21_12 : List DOper := [⟨⟨.move (.tmp 0), (some 60), none⟩, 0⟩,
  ⟨⟨.move (.tmp 9), (some 61), none⟩, 0⟩,
  ⟨⟨.addrSl 3 (.tmp 60) (.tmp 61), (some 62), none⟩, 3⟩,
  ⟨⟨.fieldAddr 2 (.tmp 62), (some 63), none⟩, 7⟩,
  ⟨⟨.load none (.tmp 63), (some 64), none⟩, 15⟩,
  ⟨⟨.move (.tmp 0), (some 65), none⟩, 0⟩,
  ⟨⟨.move (.tmp 8), (some 66), none⟩, 0⟩,
  ⟨⟨.addrSl 3 (.tmp 65) (.tmp 66), (some 67), none⟩, 96⟩,
  ⟨⟨.fieldAddr 2 (.tmp 67), (some 68), none⟩, 224⟩,
  ⟨⟨.load none (.tmp 68), (some 69), none⟩, 480⟩,
  ⟨⟨.call (.func 46) [(.tmp 64), (.tmp 69)], (some 70), none⟩, 1023⟩,
  ⟨⟨.move (.tmp 70), (some 10), none⟩, 2047⟩]
def o21_13 : List AOper := [⟨.move (.tmp 10), (some 71), none⟩]
def o21_14 : List AOper := [⟨.move (.tmp 9), (some 72), none⟩,
  ⟨.move (.tmp 72), (some 8), none⟩]
def o21_15 : List AOper := [⟨.move (.tmp 9), (some 29), none⟩,
  ⟨.bin .add (.tmp 29) (.const (.int .i64 1)), (some 30), none⟩,
  ⟨.move (.tmp 30), (some 9), none⟩]
def b21_8 : ACode := (.seq (.seq (.ops o21_9) (.cond (.tmp 28) .skip (.exit 0))) (.seq (.block 1 (.seq (.draw d21_10) (.seq (.ops o21_11) (.seq (.draw d21_12) (.seq (.ops o21_13) (.cond (.tmp 71) (.ops o21_14) .skip)))))) (.ops o21_15)))
def o21_16 : List AOper := [⟨.move (.tmp 7), (some 73), none⟩,
  ⟨.call (.func 47) [(.tmp 73)], (some 74), none⟩,
  ⟨.move (.tmp 74), (some 11), none⟩]
def d21_17 : List DOper := [⟨⟨.move (.tmp 6), (some 75), none⟩, 0⟩,
  ⟨⟨.move (.tmp 8), (some 76), none⟩, 0⟩,
  ⟨⟨.addrSl 3 (.tmp 75) (.tmp 76), (some 77), none⟩, 3⟩,
  ⟨⟨.fieldAddr 0 (.tmp 77), (some 78), none⟩, 7⟩,
  ⟨⟨.load none (.tmp 78), (some 79), none⟩, 15⟩,
  ⟨⟨.conv (.toFloat .f64) (.tmp 79), (some 80), none⟩, 31⟩,
  ⟨⟨.move (.tmp 6), (some 81), none⟩, 0⟩,
  ⟨⟨.move (.tmp 8), (some 82), none⟩, 0⟩,
  ⟨⟨.addrSl 3 (.tmp 81) (.tmp 82), (some 83), none⟩, 192⟩,
  ⟨⟨.fieldAddr 1 (.tmp 83), (some 84), none⟩, 448⟩,
  ⟨⟨.load none (.tmp 84), (some 85), none⟩, 960⟩,
  ⟨⟨.conv (.toFloat .f64) (.tmp 85), (some 86), none⟩, 1984⟩,
  ⟨⟨.move (.tmp 11), (some 87), none⟩, 0⟩,
  ⟨⟨.move (.tmp 6), (some 88), none⟩, 0⟩,
  ⟨⟨.bu .len [(.tmp 88)], (some 89), none⟩, 8192⟩,
  ⟨⟨.build [(.float .f64 0), (.float .f64 0), (.float .f64 0), (.int .i64 0)] [(0, 1, (.tmp 80)), (1, 1, (.tmp 86)), (2, 1, (.tmp 87)), (3, 1, (.tmp 89))], (some 90), none⟩, 32767⟩,
  ⟨⟨.alloc 39 [(.float .f64 0), (.float .f64 0), (.float .f64 0), (.int .i64 0)], (some 12), none⟩, 0⟩,
  ⟨⟨.store 4 (.tmp 12) (.tmp 90), none, none⟩, 131071⟩]
def o21_18 : List AOper := [⟨.move (.tmp 11), (some 91), none⟩,
  ⟨.call (.func 48) [(.tmp 91)], (some 92), none⟩,
  ⟨.move (.tmp 92), (some 13), none⟩]
def o21_19 : List AOper := [⟨.move (.tmp 13), (some 93), none⟩,
  ⟨.un .not (.tmp 93), (some 94), none⟩,
  ⟨.move (.tmp 94), (some 95), none⟩,
  ⟨.move (.tmp 11), (some 96), (some (95, false))⟩,
  ⟨.bin .gtr (.tmp 96) (.const (.float .f64 0)), (some 97), (some (95, false))⟩,
  ⟨.un .not (.tmp 97), (some 98), (some (95, false))⟩,
  ⟨.pick (.tmp 95) (.const (.bool true)) (.tmp 98), (some 99), none⟩]
def o21_20 : List AOper := [⟨.load (some 4) (.tmp 12), (some 100), none⟩,
  ⟨.store 4 (.tmp 4) (.tmp 100), none, none⟩]
def o21_21 : List AOper := [⟨.move (.const (.slice none 0 0)), (some 14), none⟩]
def o21_22 : List AOper := [⟨.move (.const (.slice none 0 0)), (some 15), none⟩]
def o21_23 : List AOper := [⟨.move (.const (.int .i64 0)), (some 16), none⟩]
def o21_25 : List AOper := [⟨.move (.tmp 16), (some 101), none⟩,
  ⟨.move (.tmp 6), (some 102), none⟩,
  ⟨.bu .len [(.tmp 102)], (some 103), none⟩,
  ⟨.bin .lss (.tmp 101) (.tmp 103), (some 104), none⟩]
def d21_26 : List DOper := [⟨⟨.move (.tmp 6), (some 107), none⟩, 0⟩,
  ⟨⟨.move (.tmp 16), (some 108), none⟩, 0⟩,
  ⟨⟨.addrSl 3 (.tmp 107) (.tmp 108), (some 109), none⟩, 3⟩,
  ⟨⟨.fieldAddr 0 (.tmp 109), (some 110), none⟩, 7⟩,
  ⟨⟨.load none (.tmp 110), (some 111), none⟩, 15⟩,
  ⟨⟨.move (.tmp 6), (some 112), none⟩, 0⟩,
  ⟨⟨.move (.tmp 8), (some 113), none⟩, 0⟩,
  ⟨⟨.addrSl 3 (.tmp 112) (.tmp 113), (some 114), none⟩, 96⟩,
  ⟨⟨.fieldAddr 0 (.tmp 114), (some 115), none⟩, 224⟩,
  ⟨⟨.load none (.tmp 115), (some 116), none⟩, 480⟩,
  ⟨⟨.move (.tmp 5), (some 117), none⟩, 0⟩,
  ⟨⟨.call (.func 49) [(.tmp 111), (.tmp 116), (.tmp 117)], (some 118), none⟩, 2047⟩,
  ⟨⟨.move (.tmp 118), (some 17), none⟩, 4095⟩]
def o21_27 : List AOper := [⟨.move (.tmp 14), (some 119), none⟩,
  ⟨.move (.tmp 6), (some 120), none⟩,
  ⟨.move (.tmp 16), (some 121), none⟩,
  ⟨.addrSl 3 (.tmp 120) (.tmp 121), (some 122), none⟩,
  ⟨.fieldAddr 2 (.tmp 122), (some 123), none⟩,
  ⟨.load none (.tmp 123), (some 124), none⟩,
  ⟨.move (.tmp 17), (some 125), none⟩,
  ⟨.conv (.toFloat .f64) (.tmp 125), (some 126), none⟩,
  ⟨.bin .mul (.tmp 124) (.tmp 126), (some 127), none⟩,
  ⟨.buildSlice 24 1 [(.float .f64 0)] 1 [(0, (.tmp 127))], (some 128), none⟩,
  ⟨.append 24 8 1 [(.float .f64 0)] (.tmp 119) (.tmp 128), (some 129), none⟩,
  ⟨.move (.tmp 129), (some 14), none⟩]
def d21_28 : List DOper := [⟨⟨.move (.tmp 15), (some 130), none⟩, 0⟩,
  ⟨⟨.move (.tmp 6), (some 131), none⟩, 0⟩,
  ⟨⟨.move (.tmp 16), (some 132), none⟩, 0⟩,
  ⟨⟨.addrSl 3 (.tmp 131) (.tmp 132), (some 133), none⟩, 6⟩,
  ⟨⟨.fieldAddr 2 (.tmp 133), (some 134), none⟩, 14⟩,
  ⟨⟨.load none (.tmp 134), (some 135), none⟩, 30⟩,
  ⟨⟨.move (.tmp 6), (some 136), none⟩, 0⟩,
  ⟨⟨.move (.tmp 16), (some 137), none⟩, 0⟩,
  ⟨⟨.addrSl 3 (.tmp 136) (.tmp 137), (some 138), none⟩, 192⟩,
  ⟨⟨.fieldAddr 1 (.tmp 138), (some 139), none⟩, 448⟩,
  ⟨⟨.load none (.tmp 139), (some 140), none⟩, 960⟩,
  ⟨⟨.move (.tmp 6), (some 141), none⟩, 0⟩,
  ⟨⟨.move (.tmp 8), (some 142), none⟩, 0⟩,
  ⟨⟨.addrSl 3 (.tmp 141) (.tmp 142), (some 143), none⟩, 6144⟩,
  ⟨⟨.fieldAddr 1 (.tmp 143), (some 144), none⟩, 14336⟩,
  ⟨⟨.load none (.tmp 144), (some 145), none⟩, 30720⟩,
  ⟨⟨.bin .sub (.tmp 140) (.tmp 145), (some 146), none⟩, 65472⟩,
  ⟨⟨.conv (.toFloat .f64) (.tmp 146), (some 147), none⟩, 131008⟩,
  ⟨⟨.bin .mul (.tmp 135) (.tmp 147), (some 148), none⟩, 262142⟩,
  ⟨⟨.buildSlice 24 1 [(.float .f64 0)] 1 [(0, (.tmp 148))], (some 149), none⟩, 524286⟩,
  ⟨⟨.append 24 8 1 [(.float .f64 0)] (.tmp 130) (.tmp 149), (some 150), none⟩, 1048575⟩,
  ⟨⟨.move (.tmp 150), (some 15), none⟩, 2097151⟩]
def o21_29 : List AOper := [⟨.move (.tmp 16), (some 105), none⟩,
  ⟨.bin .add (.tmp 105) (.const (.int .i64 1)), (some 106), none⟩,
  ⟨.move (.tmp 106), (some 16), none⟩]
def b21_24 : ACode := (.seq (.seq (.ops o21_25) (.cond (.tmp 104) .skip (.exit 2))) (.seq (.block 3 (.seq (.draw d21_26) (.seq (.ops o21_27) (.draw d21_28)))) (.ops o21_29)))
def d21_30 : List DOper := [⟨⟨.fieldAddr 1 (.tmp 12), (some 151), none⟩, 0⟩,
  ⟨⟨.load none (.tmp 151), (some 152), none⟩, 1⟩,
  ⟨⟨.move (.tmp 15), (some 153), none⟩, 0⟩,
  ⟨⟨.call (.func 47) [(.tmp 153)], (some 154), none⟩, 4⟩,
  ⟨⟨.move (.tmp 11), (some 155), none⟩, 0⟩,
  ⟨⟨.bin .quo (.tmp 154) (.tmp 155), (some 156), none⟩, 28⟩,
  ⟨⟨.bin .add (.tmp 152) (.tmp 156), (some 157), none⟩, 63⟩,
  ⟨⟨.fieldAddr 1 (.tmp 12), (some 158), none⟩, 127⟩,
  ⟨⟨.store 1 (.tmp 158) (.tmp 157), none, none⟩, 255⟩]
def d21_31 : List DOper := [⟨⟨.fieldAddr 0 (.tmp 12), (some 159), none⟩, 0⟩,
  ⟨⟨.load none (.tmp 159), (some 160), none⟩, 1⟩,
  ⟨⟨.move (.tmp 14), (some 161), none⟩, 0⟩,
  ⟨⟨.call (.func 47) [(.tmp 161)], (some 162), none⟩, 4⟩,
  ⟨⟨.move (.tmp 11), (some 163), none⟩, 0⟩,
  ⟨⟨.bin .quo (.tmp 162) (.tmp 163), (some 164), none⟩, 28⟩,
  ⟨⟨.bin .add (.tmp 160) (.tmp 164), (some 165), none⟩, 63⟩,
  ⟨⟨.move (.tmp 165), (some 18), none⟩, 127⟩]
def o21_32 : List AOper := [⟨.move (.tmp 5), (some 166), none⟩,
  ⟨.bin .gtr (.tmp 166) (.const (.int .i64 0)), (some 167), none⟩,
  ⟨.move (.tmp 167), (some 168), none⟩,
  ⟨.move (.tmp 18), (some 169), (some (168, true))⟩,
  ⟨.bin .lss (.tmp 169) (.const (.float .f64 0)), (some 170), (some (168, true))⟩,
  ⟨.pick (.tmp 168) (.tmp 170) (.const (.bool false)), (some 171), none⟩]
def o21_33 : List AOper := [⟨.move (.tmp 18), (some 172), none⟩,
  ⟨.move (.tmp 5), (some 173), none⟩,
  ⟨.conv (.toFloat .f64) (.tmp 173), (some 174), none⟩,
  ⟨.bin .add (.tmp 172) (.tmp 174), (some 175), none⟩,
  ⟨.move (.tmp 175), (some 18), none⟩]
def o21_34 : List AOper := [⟨.move (.tmp 5), (some 176), none⟩,
  ⟨.bin .gtr (.tmp 176) (.const (.int .i64 0)), (some 177), none⟩,
  ⟨.move (.tmp 177), (some 178), none⟩,
  ⟨.move (.tmp 18), (some 179), (some (178, true))⟩,
  ⟨.move (.tmp 5), (some 180), (some (178, true))⟩,
  ⟨.conv (.toFloat .f64) (.tmp 180), (some 181), (some (178, true))⟩,
  ⟨.bin .geq (.tmp 179) (.tmp 181), (some 182), (some (178, true))⟩,
  ⟨.pick (.tmp 178) (.tmp 182) (.const (.bool false)), (some 183), none⟩]
def o21_35 : List AOper := [⟨.move (.tmp 18), (some 184), none⟩,
  ⟨.move (.tmp 5), (some 185), none⟩,
  ⟨.conv (.toFloat .f64) (.tmp 185), (some 186), none⟩,
  ⟨.bin .sub (.tmp 184) (.tmp 186), (some 187), none⟩,
  ⟨.move (.tmp 187), (some 18), none⟩]
def o21_36 : List AOper := [⟨.move (.tmp 18), (some 188), none⟩,
  ⟨.fieldAddr 0 (.tmp 12), (some 189), none⟩,
  ⟨.store 1 (.tmp 189) (.tmp 188), none, none⟩]
def o21_37 : List AOper := [⟨.load (some 4) (.tmp 12), (some 190), none⟩,
  ⟨.store 4 (.tmp 4) (.tmp 190), none, none⟩]
def ir21 : AFn := ⟨191, [.cell 4 (some 4)], (.seq (.ops o21_0) (.seq (.seq (.ops o21_1) (.cond (.tmp 21) (.seq (.ops o21_2) .ret) .skip)) (.seq (.ops o21_3) (.seq (.ops o21_4) (.seq (.ops o21_5) (.seq (.ops o21_6) (.seq (.seq (.ops o21_7) (.block 0 (.loop b21_8))) (.seq (.ops o21_16) (.seq (.draw d21_17) (.seq (.ops o21_18) (.seq (.seq (.ops o21_19) (.cond (.tmp 99) (.seq (.ops o21_20) .ret) .skip)) (.seq (.ops o21_21) (.seq (.ops o21_22) (.seq (.seq (.ops o21_23) (.block 2 (.loop b21_24))) (.seq (.draw d21_30) (.seq (.draw d21_31) (.seq (.seq (.ops o21_32) (.cond (.tmp 171) (.ops o21_33) (.seq (.ops o21_34) (.cond (.tmp 183) (.ops o21_35) .skip)))) (.seq (.ops o21_36) (.seq (.ops o21_37) .ret)))))))))))))))))))⟩
theorem ir21_eq : fnsOf Try.prog 21 = some ir21 := by kernel_rfl

/-! F23 lookout/peaks.Between -/
def o23_0 : List AOper := [⟨.move (.const (.float .f64 0)), (some 6), none⟩]
def o23_1 : List AOper := [⟨.move (.tmp 0), (some 8), none⟩,
  ⟨.move (.tmp 2), (some 9), none⟩,
  ⟨.bin .sub (.tmp 8) (.tmp 9), (some 10), none⟩,
  ⟨.move (.tmp 0), (some 11), none⟩,
  ⟨.move (.tmp 2), (some 12), none⟩,
  ⟨.bin .add (.tmp 11) (.tmp 12), (some 13), none⟩,
  ⟨.move (.tmp 1), (some 14), none⟩,
  ⟨.bin .mul (.const (.float .f64 4611686018427387904)) (.tmp 14), (some 15), none⟩,
  ⟨.bin .sub (.tmp 13) (.tmp 15), (some 16), none⟩,
  ⟨.bin .mul (.const (.float .f64 4611686018427387904)) (.tmp 16), (some 17), none⟩,
  ⟨.bin .quo (.tmp 10) (.tmp 17), (some 18), none⟩,
  ⟨.move (.tmp 18), (some 7), none⟩]
def o23_2 : List AOper := [⟨.move (.tmp 7), (some 19), none⟩,
  ⟨.ext 5 51 [(.tmp 19)], (some 20), none⟩,
  ⟨.bin .leq (.tmp 20) (.const (.float .f64 4602678819172646912)), (some 21), none⟩]
def o23_3 : List AOper := [⟨.move (.tmp 7), (some 22), none⟩,
  ⟨.move (.tmp 22), (some 6), none⟩]
def o23_4 : List AOper := [⟨.move (.const (.float .f64 0)), (some 6), none⟩]
def ir23 : AFn := ⟨23, [.tmp 6], (.seq (.ops o23_0) (.seq (.ops o23_1) (.seq (.seq (.ops o23_2) (.cond (.tmp 21) (.seq (.ops o23_3) .ret) .skip)) (.seq (.ops o23_4) .ret))))⟩
theorem ir23_eq : fnsOf Try.prog 23 = some ir23 := by kernel_rfl

/-! F24 lookout/lookoutref15.Between -/
def o24_0 : List AOper := [⟨.move (.const (.float .f64 0)), (some 6), none⟩]
def o24_1 : List AOper := [⟨.move (.tmp 0), (some 10), none⟩,
  ⟨.move (.tmp 2), (some 11), none⟩,
  ⟨.bin .sub (.tmp 10) (.tmp 11), (some 12), none⟩,
  ⟨.move (.tmp 12), (some 7), none⟩]
def o24_2 : List AOper := [⟨.move (.tmp 0), (some 13), none⟩,
  ⟨.move (.tmp 2), (some 14), none⟩,
  ⟨.bin .add (.tmp 13) (.tmp 14), (some 15), none⟩,
  ⟨.move (.tmp 1), (some 16), none⟩,
  ⟨.bin .mul (.const (.float .f64 4611686018427387904)) (.tmp 16), (some 17), none⟩,
  ⟨.bin .sub (.tmp 15) (.tmp 17), (some 18), none⟩,
  ⟨.move (.tmp 18), (some 8), none⟩]
def o24_3 : List AOper := [⟨.move (.tmp 7), (some 19), none⟩,
  ⟨.move (.tmp 8), (some 20), none⟩,
  ⟨.bin .mul (.const (.float .f64 4611686018427387904)) (.tmp 20), (some 21), none⟩,
  ⟨.bin .quo (.tmp 19) (.tmp 21), (some 22), none⟩,
  ⟨.move (.tmp 22), (some 9), none⟩]
def o24_4 : List AOper := [⟨.move (.tmp 9), (some 23), none⟩,
  ⟨.bin .geq (.tmp 23) (.const (.float .f64 13826050856027422720)), (some 24), none⟩,
  ⟨.move (.tmp 24), (some 25), none⟩,
  ⟨.move (.tmp 9), (some 26), (some (25, true))⟩,
  ⟨.bin .leq (.tmp 26) (.const (.float .f64 4602678819172646912)), (some 27), (some (25, true))⟩,
  ⟨.pick (.tmp 25) (.tmp 27) (.const (.bool false)), (some 28), none⟩]
def o24_5 : List AOper := [⟨.move (.tmp 9), (some 29), none⟩,
  ⟨.move (.tmp 29), (some 6), none⟩]
def o24_6 : List AOper := [⟨.move (.const (.float .f64 0)), (some 6), none⟩]
def ir24 : AFn := ⟨30, [.tmp 6], (.seq (.ops o24_0) (.seq (.ops o24_1) (.seq (.ops o24_2) (.seq (.ops o24_3) (.seq (.seq (.ops o24_4) (.cond (.tmp 28) (.seq (.ops o24_5) .ret) .skip)) (.seq (.ops o24_6) .ret))))))⟩
theorem ir24_eq : fnsOf Try.prog 24 = some ir24 := by kernel_rfl

/-! F43 lookout/peaks.within -/
def o43_0 : List AOper := [⟨.move (.const (.int .i64 0)), (some 6), none⟩]
def o43_1 : List AOper := [⟨.move (.tmp 0), (some 7), none⟩,
  ⟨.move (.tmp 1), (some 8), none⟩,
  ⟨.bu .max [(.tmp 7), (.tmp 8)], (some 9), none⟩,
  ⟨.move (.tmp 2), (some 10), none⟩,
  ⟨.bu .min [(.tmp 9), (.tmp 10)], (some 11), none⟩,
  ⟨.move (.tmp 11), (some 6), none⟩]
def ir43 : AFn := ⟨12, [.tmp 6], (.seq (.ops o43_0) (.seq (.ops o43_1) .ret))⟩
theorem ir43_eq : fnsOf Try.prog 43 = some ir43 := by kernel_rfl

/-! F44 math.IsInf -/
def o44_0 : List AOper := [⟨.move (.const (.bool false)), (some 4), none⟩]
def o44_1 : List AOper := [⟨.move (.tmp 1), (some 5), none⟩,
  ⟨.bin .eql (.tmp 5) (.const (.int .i64 0)), (some 6), none⟩]
def o44_2 : List AOper := [⟨.move (.tmp 0), (some 7), none⟩,
  ⟨.ext 5 51 [(.tmp 7)], (some 8), none⟩,
  ⟨.move (.tmp 8), (some 0), none⟩]
def o44_3 : List AOper := [⟨.move (.tmp 1), (some 9), none⟩,
  ⟨.bin .lss (.tmp 9) (.const (.int .i64 0)), (some 10), none⟩]
def o44_4 : List AOper := [⟨.move (.tmp 0), (some 11), none⟩,
  ⟨.un .neg (.tmp 11), (some 12), none⟩,
  ⟨.move (.tmp 12), (some 0), none⟩]
def o44_5 : List AOper := [⟨.move (.tmp 0), (some 13), none⟩,
  ⟨.bin .gtr (.tmp 13) (.const (.float .f64 9218868437227405311)), (some 14), none⟩,
  ⟨.move (.tmp 14), (some 4), none⟩]
def ir44 : AFn := ⟨15, [.tmp 4], (.seq (.ops o44_0) (.seq (.seq (.ops o44_1) (.cond (.tmp 6) (.ops o44_2) (.seq (.ops o44_3) (.cond (.tmp 10) (.ops o44_4) .skip)))) (.seq (.ops o44_5) .ret)))⟩
theorem ir44_eq : fnsOf Try.prog 44 = some ir44 := by kernel_rfl

/-! F45 lookout/lookoutref15.Into -/
def o45_0 : List AOper := [⟨.move (.const (.int .i64 0)), (some 6), none⟩]
def o45_1 : List AOper := [⟨.move (.tmp 1), (some 7), none⟩,
  ⟨.move (.tmp 2), (some 8), none⟩,
  ⟨.move (.tmp 0), (some 9), none⟩,
  ⟨.bu .min [(.tmp 8), (.tmp 9)], (some 10), none⟩,
  ⟨.bu .max [(.tmp 7), (.tmp 10)], (some 11), none⟩,
  ⟨.move (.tmp 11), (some 6), none⟩]
def ir45 : AFn := ⟨12, [.tmp 6], (.seq (.ops o45_0) (.seq (.ops o45_1) .ret))⟩
theorem ir45_eq : fnsOf Try.prog 45 = some ir45 := by kernel_rfl

/-! F46 lookout/lookoutref03.Above -/
def o46_0 : List AOper := [⟨.move (.const (.bool false)), (some 4), none⟩]
def o46_1 : List AOper := [⟨.move (.tmp 0), (some 5), none⟩,
  ⟨.move (.tmp 0), (some 6), none⟩,
  ⟨.bin .eql (.tmp 5) (.tmp 6), (some 7), none⟩,
  ⟨.move (.tmp 7), (some 8), none⟩,
  ⟨.move (.tmp 1), (some 9), (some (8, true))⟩,
  ⟨.move (.tmp 1), (some 10), (some (8, true))⟩,
  ⟨.bin .neq (.tmp 9) (.tmp 10), (some 11), (some (8, true))⟩,
  ⟨.move (.tmp 11), (some 12), (some (8, true))⟩,
  ⟨.move (.tmp 0), (some 13), (some (12, false))⟩,
  ⟨.move (.tmp 1), (some 14), (some (12, false))⟩,
  ⟨.bin .gtr (.tmp 13) (.tmp 14), (some 15), (some (12, false))⟩,
  ⟨.pick (.tmp 12) (.const (.bool true)) (.tmp 15), (some 16), (some (8, true))⟩,
  ⟨.pick (.tmp 8) (.tmp 16) (.const (.bool false)), (some 17), none⟩,
  ⟨.move (.tmp 17), (some 4), none⟩]
def ir46 : AFn := ⟨18, [.tmp 4], (.seq (.ops o46_0) (.seq (.ops o46_1) .ret))⟩
theorem ir46_eq : fnsOf Try.prog 46 = some ir46 := by kernel_rfl

/-! F47 lookout/lookoutref03.Floats -/
def o47_0 : List AOper := [⟨.move (.const (.float .f64 0)), (some 2), none⟩]
def o47_1 : List AOper := [⟨.move (.tmp 0), (some 5), none⟩,
  ⟨.bu .len [(.tmp 5)], (some 6), none⟩,
  ⟨.bin .eql (.tmp 6) (.const (.int .i64 0)), (some 7), none⟩]
def o47_2 : List AOper := [⟨.move (.const (.float .f64 0)), (some 2), none⟩]
def o47_3 : List AOper := [⟨.move (.tmp 0), (some 8), none⟩,
  ⟨.addrSl 1 (.tmp 8) (.const (.int .i64 0)), (some 9), none⟩,
  ⟨.load none (.tmp 9), (some 10), none⟩,
  ⟨.move (.tmp 10), (some 3), none⟩]
def o47_4 : List AOper := [⟨.move (.const (.int .i64 1)), (some 4), none⟩]
def o47_6 : List AOper := [⟨.move (.tmp 4), (some 11), none⟩,
  ⟨.move (.tmp 0), (some 12), none⟩,
  ⟨.bu .len [(.tmp 12)], (some 13), none⟩,
  ⟨.bin .lss (.tmp 11) (.tmp 13), (some 14), none⟩]
def o47_7 : List AOper := [⟨.move (.tmp 3), (some 17), none⟩,
  ⟨.move (.tmp 0), (some 18), none⟩,
  ⟨.move (.tmp 4), (some 19), none⟩,
  ⟨.addrSl 1 (.tmp 18) (.tmp 19), (some 20), none⟩,
  ⟨.load none (.tmp 20), (some 21), none⟩,
  ⟨.bin .add (.tmp 17) (.tmp 21), (some 22), none⟩,
  ⟨.move (.tmp 22), (some 3), none⟩]
def o47_8 : List AOper := [⟨.move (.tmp 4), (some 15), none⟩,
  ⟨.bin .add (.tmp 15) (.const (.int .i64 1)), (some 16), none⟩,
  ⟨.move (.tmp 16), (some 4), none⟩]
def b47_5 : ACode := (.seq (.seq (.ops o47_6) (.cond (.tmp 14) .skip (.exit 0))) (.seq (.block 1 (.ops o47_7)) (.ops o47_8)))
def o47_9 : List AOper := [⟨.move (.tmp 3), (some 23), none⟩,
  ⟨.move (.tmp 23), (some 2), none⟩]
def ir47 : AFn := ⟨24, [.tmp 2], (.seq (.ops o47_0) (.seq (.seq (.ops o47_1) (.cond (.tmp 7) (.seq (.ops o47_2) .ret) .skip)) (.seq (.ops o47_3) (.seq (.seq (.ops o47_4) (.block 0 (.loop b47_5))) (.seq (.ops o47_9) .ret)))))⟩
theorem ir47_eq : fnsOf Try.prog 47 = some ir47 := by kernel_rfl

/-! F48 lookout/lookoutref01.IsFinite -/
def o48_0 : List AOper := [⟨.move (.const (.bool false)), (some 2), none⟩]
def o48_1 : List AOper := [⟨.move (.tmp 0), (some 3), none⟩,
  ⟨.move (.tmp 0), (some 4), none⟩,
  ⟨.bin .eql (.tmp 3) (.tmp 4), (some 5), none⟩,
  ⟨.move (.tmp 5), (some 6), none⟩,
  ⟨.move (.tmp 0), (some 7), (some (6, true))⟩,
  ⟨.bin .leq (.tmp 7) (.const (.float .f64 9218868437227405311)), (some 8), (some (6, true))⟩,
  ⟨.pick (.tmp 6) (.tmp 8) (.const (.bool false)), (some 9), none⟩,
  ⟨.move (.tmp 9), (some 10), none⟩,
  ⟨.move (.tmp 0), (some 11), (some (10, true))⟩,
  ⟨.bin .geq (.tmp 11) (.const (.float .f64 18442240474082181119)), (some 12), (some (10, true))⟩,
  ⟨.pick (.tmp 10) (.tmp 12) (.const (.bool false)), (some 13), none⟩,
  ⟨.move (.tmp 13), (some 2), none⟩]
def ir48 : AFn := ⟨14, [.tmp 2], (.seq (.ops o48_0) (.seq (.ops o48_1) .ret))⟩
theorem ir48_eq : fnsOf Try.prog 48 = some ir48 := by kernel_rfl

/-! F49 lookout/lookoutref15.Off -/
def o49_0 : List AOper := [⟨.move (.const (.int .i64 0)), (some 6), none⟩]
def o49_1 : List AOper := [⟨.move (.tmp 0), (some 8), none⟩,
  ⟨.move (.tmp 1), (some 9), none⟩,
  ⟨.bin .sub (.tmp 8) (.tmp 9), (some 10), none⟩,
  ⟨.move (.tmp 10), (some 7), none⟩]
def o49_2 : List AOper := [⟨.move (.tmp 2), (some 11), none⟩,
  ⟨.bin .gtr (.tmp 11) (.const (.int .i64 0)), (some 12), none⟩,
  ⟨.move (.tmp 12), (some 13), none⟩,
  ⟨.move (.tmp 7), (some 14), (some (13, true))⟩,
  ⟨.bin .mul (.const (.int .i64 2)) (.tmp 14), (some 15), (some (13, true))⟩,
  ⟨.move (.tmp 2), (some 16), (some (13, true))⟩,
  ⟨.bin .gtr (.tmp 15) (.tmp 16), (some 17), (some (13, true))⟩,
  ⟨.pick (.tmp 13) (.tmp 17) (.const (.bool false)), (some 18), none⟩]
def o49_3 : List AOper := [⟨.move (.tmp 7), (some 19), none⟩,
  ⟨.move (.tmp 2), (some 20), none⟩,
  ⟨.bin .sub (.tmp 19) (.tmp 20), (some 21), none⟩,
  ⟨.move (.tmp 21), (some 6), none⟩]
def o49_4 : List AOper := [⟨.move (.tmp 2), (some 22), none⟩,
  ⟨.bin .gtr (.tmp 22) (.const (.int .i64 0)), (some 23), none⟩,
  ⟨.move (.tmp 23), (some 24), none⟩,
  ⟨.move (.tmp 7), (some 25), (some (24, true))⟩,
  ⟨.bin .mul (.const (.int .i64 2)) (.tmp 25), (some 26), (some (24, true))⟩,
  ⟨.move (.tmp 2), (some 27), (some (24, true))⟩,
  ⟨.un .neg (.tmp 27), (some 28), (some (24, true))⟩,
  ⟨.bin .leq (.tmp 26) (.tmp 28), (some 29), (some (24, true))⟩,
  ⟨.pick (.tmp 24) (.tmp 29) (.const (.bool false)), (some 30), none⟩]
def o49_5 : List AOper := [⟨.move (.tmp 7), (some 31), none⟩,
  ⟨.move (.tmp 2), (some 32), none⟩,
  ⟨.bin .add (.tmp 31) (.tmp 32), (some 33), none⟩,
  ⟨.move (.tmp 33), (some 6), none⟩]
def o49_6 : List AOper := [⟨.move (.tmp 7), (some 34), none⟩,
  ⟨.move (.tmp 34), (some 6), none⟩]
def ir49 : AFn := ⟨35, [.tmp 6], (.seq (.ops o49_0) (.seq (.ops o49_1) (.seq (.seq (.ops o49_2) (.cond (.tmp 18) (.seq (.ops o49_3) .ret) .skip)) (.seq (.seq (.ops o49_4) (.cond (.tmp 30) (.seq (.ops o49_5) .ret) .skip)) (.seq (.ops o49_6) .ret)))))⟩
theorem ir49_eq : fnsOf Try.prog 49 = some ir49 := by kernel_rfl


end Go.Proofs.Ytpphomoijlilfaa
