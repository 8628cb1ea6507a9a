/- The small machine's text of functions of the seat. -/
import Derived.Test.YtcocakiincejaaaGreatRows
import Derived.Test.YtcocakiincejaaaGreatVam25
import Derived.KernelRfl
namespace Go.Proofs.YtcocakiincejaaaGreat
open Go Go.Vam

/-! F3 lookout/lookoutlaw25.DwellChecks -/
def o3_0 : List AOper := [⟨.box 27 (.tmp 0), (some 1), none⟩,
  ⟨.move (.const (.bool false)), (some 2), none⟩]
def d3_1 : List DOper := [⟨⟨.load (some 14) (.tmp 1), (some 3), none⟩, 0⟩,
  ⟨⟨.call (.func 4) [(.tmp 3)], (some 4), none⟩, 1⟩,
  ⟨⟨.load (some 14) (.tmp 1), (some 5), none⟩, 0⟩,
  ⟨⟨.call (.func 5) [(.tmp 5)], (some 6), none⟩, 7⟩,
  ⟨⟨.bin .eql (.tmp 4) (.tmp 6), (some 7), none⟩, 15⟩,
  ⟨⟨.move (.tmp 7), (some 8), none⟩, 31⟩,
  ⟨⟨.call (.func 6) [], (some 9), (some (8, true))⟩, 63⟩,
  ⟨⟨.pick (.tmp 8) (.tmp 9) (.const (.bool false)), (some 10), none⟩, 127⟩,
  ⟨⟨.move (.tmp 10), (some 2), none⟩, 255⟩]
def ir3 : AFn := ⟨11, [.tmp 2], (.seq (.ops o3_0) (.seq (.draw d3_1) .ret))⟩
theorem ir3_eq : fnsOf Tryz.prog 3 = some ir3 := by kernel_rfl

/-! F5 lookout/lookoutref25.Check -/
def o5_0 : List AOper := [⟨.box 27 (.tmp 0), (some 1), none⟩,
  ⟨.move (.const (.int .i64 0)), (some 2), none⟩]
def o5_1 : List AOper := [⟨.fieldAddr 0 (.tmp 1), (some 8), none⟩,
  ⟨.load (some 5) (.tmp 8), (some 9), none⟩,
  ⟨.call (.func 11) [(.tmp 9)], (some 10), none⟩,
  ⟨.move (.tmp 10), (some 3), none⟩]
def o5_2 : List AOper := [⟨.move (.tmp 3), (some 11), none⟩,
  ⟨.bin .neq (.tmp 11) (.const (.int .i64 0)), (some 12), none⟩]
def o5_3 : List AOper := [⟨.move (.tmp 3), (some 13), none⟩,
  ⟨.move (.tmp 13), (some 2), none⟩]
def o5_4 : List AOper := [⟨.fieldAddr 5 (.tmp 1), (some 15), none⟩,
  ⟨.load none (.tmp 15), (some 16), none⟩,
  ⟨.call (.func 12) [(.tmp 16)], (some 17), none⟩,
  ⟨.move (.tmp 17), (some 14), none⟩,
  ⟨.extract (.tmp 14) 0, (some 18), none⟩,
  ⟨.extract (.tmp 14) 1, (some 19), none⟩,
  ⟨.move (.tmp 18), (some 4), none⟩,
  ⟨.move (.tmp 19), (some 3), none⟩]
def o5_5 : List AOper := [⟨.move (.tmp 3), (some 20), none⟩,
  ⟨.bin .neq (.tmp 20) (.const (.int .i64 0)), (some 21), none⟩]
def o5_6 : List AOper := [⟨.move (.tmp 3), (some 22), none⟩,
  ⟨.move (.tmp 22), (some 2), none⟩]
def o5_7 : List AOper := [⟨.fieldAddr 0 (.tmp 1), (some 23), none⟩,
  ⟨.load (some 5) (.tmp 23), (some 24), none⟩,
  ⟨.alloc 24 [(.float .f64 0), (.float .f64 0), (.float .f64 0), (.int .i64 0), (.int .i64 0)], (some 5), none⟩,
  ⟨.store 5 (.tmp 5) (.tmp 24), none, none⟩]
def o5_8 : List AOper := [⟨.move (.tmp 4), (some 25), none⟩,
  ⟨.bu .len [(.tmp 25)], (some 26), none⟩,
  ⟨.fieldAddr 3 (.tmp 5), (some 27), none⟩,
  ⟨.load none (.tmp 27), (some 28), none⟩,
  ⟨.bin .gtr (.tmp 26) (.tmp 28), (some 29), none⟩,
  ⟨.move (.tmp 29), (some 30), none⟩,
  ⟨.fieldAddr 7 (.tmp 1), (some 31), (some (30, false))⟩,
  ⟨.load none (.tmp 31), (some 32), (some (30, false))⟩,
  ⟨.bin .lss (.tmp 32) (.const (.int .i64 0)), (some 33), (some (30, false))⟩,
  ⟨.pick (.tmp 30) (.const (.bool true)) (.tmp 33), (some 34), none⟩,
  ⟨.move (.tmp 34), (some 35), none⟩,
  ⟨.fieldAddr 7 (.tmp 1), (some 36), (some (35, false))⟩,
  ⟨.load none (.tmp 36), (some 37), (some (35, false))⟩,
  ⟨.bin .gtr (.tmp 37) (.const (.int .i64 8)), (some 38), (some (35, false))⟩,
  ⟨.pick (.tmp 35) (.const (.bool true)) (.tmp 38), (some 39), none⟩,
  ⟨.move (.tmp 39), (some 40), none⟩,
  ⟨.fieldAddr 7 (.tmp 1), (some 41), (some (40, false))⟩,
  ⟨.load none (.tmp 41), (some 42), (some (40, false))⟩,
  ⟨.fieldAddr 4 (.tmp 5), (some 43), (some (40, false))⟩,
  ⟨.load none (.tmp 43), (some 44), (some (40, false))⟩,
  ⟨.bin .geq (.tmp 42) (.tmp 44), (some 45), (some (40, false))⟩,
  ⟨.pick (.tmp 40) (.const (.bool true)) (.tmp 45), (some 46), none⟩]
def o5_9 : List AOper := [⟨.move (.const (.int .i64 2)), (some 2), none⟩]
def o5_10 : List AOper := [⟨.fieldAddr 9 (.tmp 1), (some 47), none⟩,
  ⟨.load none (.tmp 47), (some 48), none⟩,
  ⟨.bin .lss (.tmp 48) (.const (.int .i64 0)), (some 49), none⟩,
  ⟨.move (.tmp 49), (some 50), none⟩,
  ⟨.fieldAddr 9 (.tmp 1), (some 51), (some (50, false))⟩,
  ⟨.load none (.tmp 51), (some 52), (some (50, false))⟩,
  ⟨.bin .gtr (.tmp 52) (.const (.int .i64 16384)), (some 53), (some (50, false))⟩,
  ⟨.pick (.tmp 50) (.const (.bool true)) (.tmp 53), (some 54), none⟩,
  ⟨.move (.tmp 54), (some 55), none⟩,
  ⟨.fieldAddr 10 (.tmp 1), (some 56), (some (55, false))⟩,
  ⟨.load none (.tmp 56), (some 57), (some (55, false))⟩,
  ⟨.bin .lss (.tmp 57) (.const (.int .i64 1)), (some 58), (some (55, false))⟩,
  ⟨.pick (.tmp 55) (.const (.bool true)) (.tmp 58), (some 59), none⟩,
  ⟨.move (.tmp 59), (some 60), none⟩,
  ⟨.fieldAddr 10 (.tmp 1), (some 61), (some (60, false))⟩,
  ⟨.load none (.tmp 61), (some 62), (some (60, false))⟩,
  ⟨.bin .gtr (.tmp 62) (.const (.int .i64 16384)), (some 63), (some (60, false))⟩,
  ⟨.pick (.tmp 60) (.const (.bool true)) (.tmp 63), (some 64), none⟩]
def o5_11 : List AOper := [⟨.move (.const (.int .i64 2)), (some 2), none⟩]
def o5_12 : List AOper := [⟨.fieldAddr 11 (.tmp 1), (some 65), none⟩,
  ⟨.load none (.tmp 65), (some 66), none⟩,
  ⟨.bin .lss (.tmp 66) (.const (.int .i64 0)), (some 67), none⟩,
  ⟨.move (.tmp 67), (some 68), none⟩,
  ⟨.fieldAddr 11 (.tmp 1), (some 69), (some (68, false))⟩,
  ⟨.load none (.tmp 69), (some 70), (some (68, false))⟩,
  ⟨.bin .gtr (.tmp 70) (.const (.int .i64 32768)), (some 71), (some (68, false))⟩,
  ⟨.pick (.tmp 68) (.const (.bool true)) (.tmp 71), (some 72), none⟩,
  ⟨.move (.tmp 72), (some 73), none⟩,
  ⟨.fieldAddr 8 (.tmp 1), (some 74), (some (73, false))⟩,
  ⟨.load none (.tmp 74), (some 75), (some (73, false))⟩,
  ⟨.bin .eql (.tmp 75) (.const (.int .i8 3)), (some 76), (some (73, false))⟩,
  ⟨.move (.tmp 76), (some 77), (some (73, false))⟩,
  ⟨.fieldAddr 11 (.tmp 1), (some 78), (some (77, true))⟩,
  ⟨.load none (.tmp 78), (some 79), (some (77, true))⟩,
  ⟨.fieldAddr 10 (.tmp 1), (some 80), (some (77, true))⟩,
  ⟨.load none (.tmp 80), (some 81), (some (77, true))⟩,
  ⟨.bin .mul (.const (.int .i64 2)) (.tmp 81), (some 82), (some (77, true))⟩,
  ⟨.bin .sub (.tmp 82) (.const (.int .i64 1)), (some 83), (some (77, true))⟩,
  ⟨.bin .gtr (.tmp 79) (.tmp 83), (some 84), (some (77, true))⟩,
  ⟨.pick (.tmp 77) (.tmp 84) (.const (.bool false)), (some 85), (some (73, false))⟩,
  ⟨.pick (.tmp 73) (.const (.bool true)) (.tmp 85), (some 86), none⟩]
def o5_13 : List AOper := [⟨.move (.const (.int .i64 2)), (some 2), none⟩]
def o5_14 : List AOper := [⟨.fieldAddr 12 (.tmp 1), (some 87), none⟩,
  ⟨.load none (.tmp 87), (some 88), none⟩,
  ⟨.call (.func 13) [(.tmp 88)], (some 89), none⟩,
  ⟨.move (.tmp 89), (some 6), none⟩]
def o5_15 : List AOper := [⟨.fieldAddr 13 (.tmp 1), (some 90), none⟩,
  ⟨.load none (.tmp 90), (some 91), none⟩,
  ⟨.call (.func 13) [(.tmp 91)], (some 92), none⟩,
  ⟨.move (.tmp 92), (some 7), none⟩]
def o5_16 : List AOper := [⟨.move (.tmp 6), (some 93), none⟩,
  ⟨.un .not (.tmp 93), (some 94), none⟩,
  ⟨.move (.tmp 94), (some 95), none⟩,
  ⟨.move (.tmp 7), (some 96), (some (95, false))⟩,
  ⟨.un .not (.tmp 96), (some 97), (some (95, false))⟩,
  ⟨.pick (.tmp 95) (.const (.bool true)) (.tmp 97), (some 98), none⟩]
def o5_17 : List AOper := [⟨.move (.const (.int .i64 6)), (some 2), none⟩]
def o5_18 : List AOper := [⟨.fieldAddr 12 (.tmp 1), (some 99), none⟩,
  ⟨.load none (.tmp 99), (some 100), none⟩,
  ⟨.bin .lss (.tmp 100) (.const (.float .f64 0)), (some 101), none⟩,
  ⟨.move (.tmp 101), (some 102), none⟩,
  ⟨.fieldAddr 13 (.tmp 1), (some 103), (some (102, false))⟩,
  ⟨.load none (.tmp 103), (some 104), (some (102, false))⟩,
  ⟨.bin .lss (.tmp 104) (.const (.float .f64 0)), (some 105), (some (102, false))⟩,
  ⟨.pick (.tmp 102) (.const (.bool true)) (.tmp 105), (some 106), none⟩]
def o5_19 : List AOper := [⟨.move (.const (.int .i64 2)), (some 2), none⟩]
def o5_20 : List AOper := [⟨.fieldAddr 4 (.tmp 5), (some 107), none⟩,
  ⟨.load none (.tmp 107), (some 108), none⟩,
  ⟨.fieldAddr 3 (.tmp 5), (some 109), none⟩,
  ⟨.load none (.tmp 109), (some 110), none⟩,
  ⟨.bin .mul (.tmp 108) (.tmp 110), (some 111), none⟩,
  ⟨.move (.tmp 4), (some 112), none⟩,
  ⟨.bu .len [(.tmp 112)], (some 113), none⟩,
  ⟨.bin .mul (.tmp 111) (.tmp 113), (some 114), none⟩,
  ⟨.bin .gtr (.tmp 114) (.const (.int .i64 16777216)), (some 115), none⟩,
  ⟨.move (.tmp 115), (some 116), none⟩,
  ⟨.fieldAddr 4 (.tmp 5), (some 117), (some (116, false))⟩,
  ⟨.load none (.tmp 117), (some 118), (some (116, false))⟩,
  ⟨.fieldAddr 4 (.tmp 5), (some 119), (some (116, false))⟩,
  ⟨.load none (.tmp 119), (some 120), (some (116, false))⟩,
  ⟨.bin .mul (.tmp 118) (.tmp 120), (some 121), (some (116, false))⟩,
  ⟨.fieldAddr 3 (.tmp 5), (some 122), (some (116, false))⟩,
  ⟨.load none (.tmp 122), (some 123), (some (116, false))⟩,
  ⟨.bin .mul (.tmp 121) (.tmp 123), (some 124), (some (116, false))⟩,
  ⟨.bin .gtr (.tmp 124) (.const (.int .i64 16777216)), (some 125), (some (116, false))⟩,
  ⟨.pick (.tmp 116) (.const (.bool true)) (.tmp 125), (some 126), none⟩]
def o5_21 : List AOper := [⟨.move (.const (.int .i64 3)), (some 2), none⟩]
def o5_22 : List AOper := [⟨.move (.const (.int .i64 0)), (some 2), none⟩]
def ir5 : AFn := ⟨127, [.tmp 2], (.seq (.ops o5_0) (.seq (.ops o5_1) (.seq (.seq (.ops o5_2) (.cond (.tmp 12) (.seq (.ops o5_3) .ret) .skip)) (.seq (.ops o5_4) (.seq (.seq (.ops o5_5) (.cond (.tmp 21) (.seq (.ops o5_6) .ret) .skip)) (.seq (.ops o5_7) (.seq (.seq (.ops o5_8) (.cond (.tmp 46) (.seq (.ops o5_9) .ret) .skip)) (.seq (.seq (.ops o5_10) (.cond (.tmp 64) (.seq (.ops o5_11) .ret) .skip)) (.seq (.seq (.ops o5_12) (.cond (.tmp 86) (.seq (.ops o5_13) .ret) .skip)) (.seq (.ops o5_14) (.seq (.ops o5_15) (.seq (.seq (.ops o5_16) (.cond (.tmp 98) (.seq (.ops o5_17) .ret) .skip)) (.seq (.seq (.ops o5_18) (.cond (.tmp 106) (.seq (.ops o5_19) .ret) .skip)) (.seq (.seq (.ops o5_20) (.cond (.tmp 126) (.seq (.ops o5_21) .ret) .skip)) (.seq (.ops o5_22) .ret)))))))))))))))⟩
theorem ir5_eq : fnsOf Tryz.prog 5 = some ir5 := by kernel_rfl

/-! F11 lookout/lookoutref08.Check -/
def o11_0 : List AOper := [⟨.box 24 (.tmp 0), (some 1), none⟩,
  ⟨.move (.const (.int .i64 0)), (some 2), none⟩]
def o11_1 : List AOper := [⟨.fieldAddr 0 (.tmp 1), (some 5), none⟩,
  ⟨.load none (.tmp 5), (some 6), none⟩,
  ⟨.fieldAddr 1 (.tmp 1), (some 7), none⟩,
  ⟨.load none (.tmp 7), (some 8), none⟩,
  ⟨.fieldAddr 2 (.tmp 1), (some 9), none⟩,
  ⟨.load none (.tmp 9), (some 10), none⟩,
  ⟨.build [(.float .f64 0), (.float .f64 0), (.float .f64 0)] [(0, 1, (.tmp 6)), (1, 1, (.tmp 8)), (2, 1, (.tmp 10))], (some 11), none⟩,
  ⟨.alloc 58 [(.float .f64 0), (.float .f64 0), (.float .f64 0)], (some 3), none⟩,
  ⟨.store 3 (.tmp 3) (.tmp 11), none, none⟩]
def o11_2 : List AOper := [⟨.move (.const (.int .i64 0)), (some 4), none⟩]
def o11_4 : List AOper := [⟨.move (.tmp 4), (some 12), none⟩,
  ⟨.bin .lss (.tmp 12) (.const (.int .i64 3)), (some 13), none⟩]
def o11_5 : List AOper := [⟨.move (.tmp 4), (some 16), none⟩,
  ⟨.addrArr 3 1 (.tmp 3) (.tmp 16), (some 17), none⟩,
  ⟨.load none (.tmp 17), (some 18), none⟩,
  ⟨.call (.func 13) [(.tmp 18)], (some 19), none⟩,
  ⟨.un .not (.tmp 19), (some 20), none⟩,
  ⟨.move (.tmp 20), (some 21), none⟩,
  ⟨.move (.tmp 4), (some 22), (some (21, false))⟩,
  ⟨.addrArr 3 1 (.tmp 3) (.tmp 22), (some 23), (some (21, false))⟩,
  ⟨.load none (.tmp 23), (some 24), (some (21, false))⟩,
  ⟨.bin .gtr (.tmp 24) (.const (.float .f64 0)), (some 25), (some (21, false))⟩,
  ⟨.un .not (.tmp 25), (some 26), (some (21, false))⟩,
  ⟨.pick (.tmp 21) (.const (.bool true)) (.tmp 26), (some 27), none⟩]
def o11_6 : List AOper := [⟨.move (.const (.int .i64 80)), (some 2), none⟩]
def o11_7 : List AOper := [⟨.move (.tmp 4), (some 14), none⟩,
  ⟨.bin .add (.tmp 14) (.const (.int .i64 1)), (some 15), none⟩,
  ⟨.move (.tmp 15), (some 4), none⟩]
def b11_3 : ACode := (.seq (.seq (.ops o11_4) (.cond (.tmp 13) .skip (.exit 0))) (.seq (.block 1 (.seq (.ops o11_5) (.cond (.tmp 27) (.seq (.ops o11_6) .ret) .skip))) (.ops o11_7)))
def o11_8 : List AOper := [⟨.fieldAddr 3 (.tmp 1), (some 28), none⟩,
  ⟨.load none (.tmp 28), (some 29), none⟩,
  ⟨.bin .lss (.tmp 29) (.const (.int .i64 1)), (some 30), none⟩,
  ⟨.move (.tmp 30), (some 31), none⟩,
  ⟨.fieldAddr 3 (.tmp 1), (some 32), (some (31, false))⟩,
  ⟨.load none (.tmp 32), (some 33), (some (31, false))⟩,
  ⟨.bin .gtr (.tmp 33) (.const (.int .i64 16384)), (some 34), (some (31, false))⟩,
  ⟨.pick (.tmp 31) (.const (.bool true)) (.tmp 34), (some 35), none⟩,
  ⟨.move (.tmp 35), (some 36), none⟩,
  ⟨.fieldAddr 4 (.tmp 1), (some 37), (some (36, false))⟩,
  ⟨.load none (.tmp 37), (some 38), (some (36, false))⟩,
  ⟨.bin .lss (.tmp 38) (.const (.int .i64 1)), (some 39), (some (36, false))⟩,
  ⟨.pick (.tmp 36) (.const (.bool true)) (.tmp 39), (some 40), none⟩,
  ⟨.move (.tmp 40), (some 41), none⟩,
  ⟨.fieldAddr 4 (.tmp 1), (some 42), (some (41, false))⟩,
  ⟨.load none (.tmp 42), (some 43), (some (41, false))⟩,
  ⟨.bin .gtr (.tmp 43) (.const (.int .i64 256)), (some 44), (some (41, false))⟩,
  ⟨.pick (.tmp 41) (.const (.bool true)) (.tmp 44), (some 45), none⟩]
def o11_9 : List AOper := [⟨.move (.const (.int .i64 80)), (some 2), none⟩]
def o11_10 : List AOper := [⟨.fieldAddr 3 (.tmp 1), (some 46), none⟩,
  ⟨.load none (.tmp 46), (some 47), none⟩,
  ⟨.fieldAddr 4 (.tmp 1), (some 48), none⟩,
  ⟨.load none (.tmp 48), (some 49), none⟩,
  ⟨.bin .mul (.tmp 47) (.tmp 49), (some 50), none⟩,
  ⟨.bin .gtr (.tmp 50) (.const (.int .i64 262144)), (some 51), none⟩]
def o11_11 : List AOper := [⟨.move (.const (.int .i64 3)), (some 2), none⟩]
def o11_12 : List AOper := [⟨.move (.const (.int .i64 0)), (some 2), none⟩]
def ir11 : AFn := ⟨52, [.tmp 2], (.seq (.ops o11_0) (.seq (.ops o11_1) (.seq (.seq (.ops o11_2) (.block 0 (.loop b11_3))) (.seq (.seq (.ops o11_8) (.cond (.tmp 45) (.seq (.ops o11_9) .ret) .skip)) (.seq (.seq (.ops o11_10) (.cond (.tmp 51) (.seq (.ops o11_11) .ret) .skip)) (.seq (.ops o11_12) .ret))))))⟩
theorem ir11_eq : fnsOf Tryz.prog 11 = some ir11 := by kernel_rfl

/-! F12 lookout/lookoutref04.Code -/
def o12_0 : List AOper := [⟨.move (.const (.slice none 0 0)), (some 2), none⟩,
  ⟨.move (.const (.int .i64 0)), (some 3), none⟩]
def o12_1 : List AOper := [⟨.buildSlice 3 1 [(.int .i64 0)] 7 [(0, (.const (.int .i64 2))), (1, (.const (.int .i64 3))), (2, (.const (.int .i64 4))), (3, (.const (.int .i64 5))), (4, (.const (.int .i64 7))), (5, (.const (.int .i64 11))), (6, (.const (.int .i64 13)))], (some 5), none⟩,
  ⟨.move (.tmp 5), (some 4), none⟩]
def o12_2 : List AOper := [⟨.move (.tmp 0), (some 7), none⟩,
  ⟨.bin .eql (.tmp 7) (.const (.int .i64 0)), (some 8), none⟩,
  ⟨.move (.tmp 8), (some 6), none⟩]
def o12_3 : List AOper := [⟨.build [(.float .f64 0), (.float .f64 0)] [(0, 1, (.const (.float .f64 4607182418800017408)))], (some 9), none⟩,
  ⟨.buildSlice 66 2 [(.float .f64 0), (.float .f64 0)] 1 [(0, (.tmp 9))], (some 10), none⟩,
  ⟨.move (.tmp 10), (some 2), none⟩,
  ⟨.move (.const (.int .i64 0)), (some 3), none⟩]
def o12_4 : List AOper := [⟨.move (.tmp 0), (some 12), none⟩,
  ⟨.bin .geq (.tmp 12) (.const (.int .i64 1)), (some 13), none⟩,
  ⟨.move (.tmp 13), (some 14), none⟩,
  ⟨.move (.tmp 0), (some 15), (some (14, true))⟩,
  ⟨.bin .leq (.tmp 15) (.const (.int .i64 7)), (some 16), (some (14, true))⟩,
  ⟨.pick (.tmp 14) (.tmp 16) (.const (.bool false)), (some 17), none⟩,
  ⟨.move (.tmp 17), (some 11), none⟩]
def o12_5 : List AOper := [⟨.move (.tmp 4), (some 18), none⟩,
  ⟨.move (.tmp 0), (some 19), none⟩,
  ⟨.bin .sub (.tmp 19) (.const (.int .i64 1)), (some 20), none⟩,
  ⟨.addrSl 1 (.tmp 18) (.tmp 20), (some 21), none⟩,
  ⟨.load none (.tmp 21), (some 22), none⟩,
  ⟨.call (.func 25) [(.tmp 22)], (some 23), none⟩,
  ⟨.extract (.tmp 23) 0, (some 24), none⟩,
  ⟨.extract (.tmp 23) 1, (some 25), none⟩,
  ⟨.move (.tmp 24), (some 2), none⟩,
  ⟨.move (.tmp 25), (some 3), none⟩]
def o12_6 : List AOper := [⟨.move (.tmp 0), (some 27), none⟩,
  ⟨.bin .eql (.tmp 27) (.const (.int .i64 8)), (some 28), none⟩,
  ⟨.move (.tmp 28), (some 26), none⟩]
def o12_7 : List AOper := [⟨.call (.func 26) [(.const (.int .i64 4))], (some 29), none⟩,
  ⟨.extract (.tmp 29) 0, (some 30), none⟩,
  ⟨.extract (.tmp 29) 1, (some 31), none⟩,
  ⟨.move (.tmp 30), (some 2), none⟩,
  ⟨.move (.tmp 31), (some 3), none⟩]
def o12_8 : List AOper := [⟨.move (.tmp 0), (some 33), none⟩,
  ⟨.bin .eql (.tmp 33) (.const (.int .i64 9)), (some 34), none⟩,
  ⟨.move (.tmp 34), (some 32), none⟩]
def o12_9 : List AOper := [⟨.call (.func 26) [(.const (.int .i64 8))], (some 35), none⟩,
  ⟨.extract (.tmp 35) 0, (some 36), none⟩,
  ⟨.extract (.tmp 35) 1, (some 37), none⟩,
  ⟨.move (.tmp 36), (some 2), none⟩,
  ⟨.move (.tmp 37), (some 3), none⟩]
def o12_10 : List AOper := [⟨.move (.tmp 0), (some 39), none⟩,
  ⟨.bin .eql (.tmp 39) (.const (.int .i64 10)), (some 40), none⟩,
  ⟨.move (.tmp 40), (some 38), none⟩]
def o12_11 : List AOper := [⟨.call (.func 27) [(.const (.int .i64 32)), (.const (.float .f64 4620693217682128896))], (some 41), none⟩,
  ⟨.extract (.tmp 41) 0, (some 42), none⟩,
  ⟨.extract (.tmp 41) 1, (some 43), none⟩,
  ⟨.move (.tmp 42), (some 2), none⟩,
  ⟨.move (.tmp 43), (some 3), none⟩]
def o12_12 : List AOper := [⟨.move (.tmp 0), (some 45), none⟩,
  ⟨.bin .eql (.tmp 45) (.const (.int .i64 11)), (some 46), none⟩,
  ⟨.move (.tmp 46), (some 44), none⟩]
def o12_13 : List AOper := [⟨.call (.func 27) [(.const (.int .i64 64)), (.const (.float .f64 4625196817309499392))], (some 47), none⟩,
  ⟨.extract (.tmp 47) 0, (some 48), none⟩,
  ⟨.extract (.tmp 47) 1, (some 49), none⟩,
  ⟨.move (.tmp 48), (some 2), none⟩,
  ⟨.move (.tmp 49), (some 3), none⟩]
def o12_14 : List AOper := [⟨.move (.tmp 0), (some 51), none⟩,
  ⟨.bin .eql (.tmp 51) (.const (.int .i64 12)), (some 52), none⟩,
  ⟨.move (.tmp 52), (some 50), none⟩]
def o12_15 : List AOper := [⟨.buildSlice 3 1 [(.int .i64 0)] 10 [(0, (.const (.int .i64 1))), (1, (.const (.int .i64 2))), (2, (.const (.int .i64 4))), (3, (.const (.int .i64 8))), (4, (.const (.int .i64 5))), (5, (.const (.int .i64 10))), (6, (.const (.int .i64 9))), (7, (.const (.int .i64 7))), (8, (.const (.int .i64 3))), (9, (.const (.int .i64 6)))], (some 53), none⟩,
  ⟨.call (.func 28) [(.tmp 53), (.const (.int .i64 16))], (some 54), none⟩,
  ⟨.extract (.tmp 54) 0, (some 55), none⟩,
  ⟨.extract (.tmp 54) 1, (some 56), none⟩,
  ⟨.move (.tmp 55), (some 2), none⟩,
  ⟨.move (.tmp 56), (some 3), none⟩]
def o12_16 : List AOper := [⟨.move (.const (.slice none 0 0)), (some 2), none⟩,
  ⟨.move (.const (.int .i64 40)), (some 3), none⟩]
def ir12 : AFn := ⟨57, [.tmp 2, .tmp 3], (.seq (.ops o12_0) (.seq (.ops o12_1) (.seq (.block 0 (.seq (.ops o12_2) (.cond (.tmp 6) (.seq (.ops o12_3) .ret) (.seq (.ops o12_4) (.cond (.tmp 11) (.seq (.ops o12_5) .ret) (.seq (.ops o12_6) (.cond (.tmp 26) (.seq (.ops o12_7) .ret) (.seq (.ops o12_8) (.cond (.tmp 32) (.seq (.ops o12_9) .ret) (.seq (.ops o12_10) (.cond (.tmp 38) (.seq (.ops o12_11) .ret) (.seq (.ops o12_12) (.cond (.tmp 44) (.seq (.ops o12_13) .ret) (.seq (.ops o12_14) (.cond (.tmp 50) (.seq (.ops o12_15) .ret) .skip))))))))))))))) (.seq (.ops o12_16) .ret))))⟩
theorem ir12_eq : fnsOf Tryz.prog 12 = some ir12 := by kernel_rfl

/-! F13 lookout/lookoutref01.IsFinite -/
def o13_0 : List AOper := [⟨.move (.const (.bool false)), (some 2), none⟩]
def o13_1 : List AOper := [⟨.move (.tmp 0), (some 3), none⟩,
  ⟨.move (.tmp 0), (some 4), none⟩,
  ⟨.bin .eql (.tmp 3) (.tmp 4), (some 5), none⟩,
  ⟨.move (.tmp 5), (some 6), none⟩,
  ⟨.move (.tmp 0), (some 7), (some (6, true))⟩,
  ⟨.bin .leq (.tmp 7) (.const (.float .f64 9218868437227405311)), (some 8), (some (6, true))⟩,
  ⟨.pick (.tmp 6) (.tmp 8) (.const (.bool false)), (some 9), none⟩,
  ⟨.move (.tmp 9), (some 10), none⟩,
  ⟨.move (.tmp 0), (some 11), (some (10, true))⟩,
  ⟨.bin .geq (.tmp 11) (.const (.float .f64 18442240474082181119)), (some 12), (some (10, true))⟩,
  ⟨.pick (.tmp 10) (.tmp 12) (.const (.bool false)), (some 13), none⟩,
  ⟨.move (.tmp 13), (some 2), none⟩]
def ir13 : AFn := ⟨14, [.tmp 2], (.seq (.ops o13_0) (.seq (.ops o13_1) .ret))⟩
theorem ir13_eq : fnsOf Tryz.prog 13 = some ir13 := by kernel_rfl


end Go.Proofs.YtcocakiincejaaaGreat
