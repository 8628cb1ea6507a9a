/- The small machine's text of functions of the seat. -/
import Derived.Test.YtpphomoijlilfaaRows
import Derived.Test.YtpphomoijlilfaaVam25
import Derived.KernelRfl
namespace Go.Proofs.Ytpphomoijlilfaa
open Go Go.Vam
def o37_0 : List AOper := [⟨.move (.tmp 0), (some 5), none⟩,
  ⟨.bu .len [(.tmp 5)], (some 6), none⟩,
  ⟨.move (.tmp 6), (some 4), none⟩]
def o37_1 : List AOper := [⟨.move (.tmp 0), (some 7), none⟩,
  ⟨.move (.tmp 4), (some 8), none⟩,
  ⟨.move (.tmp 4), (some 9), none⟩,
  ⟨.conv (.toInt .u64) (.tmp 9), (some 10), none⟩,
  ⟨.call (.func 55) [(.tmp 10)], (some 11), none⟩,
  ⟨.move (.tmp 1), (some 12), none⟩,
  ⟨.call (.func 54) [(.tmp 7), (.const (.int .i64 0)), (.tmp 8), (.tmp 11), (.tmp 12)], (some 13), none⟩]
def ir37 : AFn := ⟨14, [], (.seq (.ops o37_0) (.ops o37_1))⟩
theorem ir37_eq : fnsOf Try.prog 37 = some ir37 := by kernel_rfl
def o38_0 : List AOper := [⟨.box 29 (.tmp 0), (some 2), none⟩,
  ⟨.box 29 (.tmp 1), (some 3), none⟩,
  ⟨.move (.const (.int .i64 0)), (some 4), none⟩]
def o38_1 : List AOper := [⟨.fieldAddr 0 (.tmp 2), (some 5), none⟩,
  ⟨.load none (.tmp 5), (some 6), none⟩,
  ⟨.fieldAddr 0 (.tmp 3), (some 7), none⟩,
  ⟨.load none (.tmp 7), (some 8), none⟩,
  ⟨.bin .neq (.tmp 6) (.tmp 8), (some 9), none⟩]
def o38_2 : List AOper := [⟨.fieldAddr 0 (.tmp 2), (some 10), none⟩,
  ⟨.load none (.tmp 10), (some 11), none⟩,
  ⟨.fieldAddr 0 (.tmp 3), (some 12), none⟩,
  ⟨.load none (.tmp 12), (some 13), none⟩,
  ⟨.bin .sub (.tmp 11) (.tmp 13), (some 14), none⟩,
  ⟨.move (.tmp 14), (some 4), none⟩]
def o38_3 : List AOper := [⟨.fieldAddr 1 (.tmp 2), (some 15), none⟩,
  ⟨.load none (.tmp 15), (some 16), none⟩,
  ⟨.fieldAddr 1 (.tmp 3), (some 17), none⟩,
  ⟨.load none (.tmp 17), (some 18), none⟩,
  ⟨.bin .sub (.tmp 16) (.tmp 18), (some 19), none⟩,
  ⟨.move (.tmp 19), (some 4), none⟩]
def ir38 : AFn := ⟨20, [.tmp 4], (.seq (.ops o38_0) (.seq (.seq (.ops o38_1) (.cond (.tmp 9) (.seq (.ops o38_2) .ret) .skip)) (.seq (.ops o38_3) .ret)))⟩
theorem ir38_eq : fnsOf Try.prog 38 = some ir38 := by kernel_rfl
def o54_0 : List AOper := [⟨.move (.const (.bool true)), (some 10), none⟩]
def o54_1 : List AOper := [⟨.move (.const (.bool true)), (some 11), none⟩]
def o54_3 : List AOper := [⟨.move (.tmp 2), (some 21), none⟩,
  ⟨.move (.tmp 1), (some 22), none⟩,
  ⟨.bin .sub (.tmp 21) (.tmp 22), (some 23), none⟩,
  ⟨.move (.tmp 23), (some 12), none⟩]
def o54_4 : List AOper := [⟨.move (.tmp 12), (some 24), none⟩,
  ⟨.bin .leq (.tmp 24) (.const (.int .i64 12)), (some 25), none⟩]
def o54_5 : List AOper := [⟨.move (.tmp 0), (some 26), none⟩,
  ⟨.move (.tmp 1), (some 27), none⟩,
  ⟨.move (.tmp 2), (some 28), none⟩,
  ⟨.move (.tmp 4), (some 29), none⟩,
  ⟨.call (.func 61) [(.tmp 26), (.tmp 27), (.tmp 28), (.tmp 29)], (some 30), none⟩]
def o54_6 : List AOper := [⟨.move (.tmp 3), (some 31), none⟩,
  ⟨.bin .eql (.tmp 31) (.const (.int .i64 0)), (some 32), none⟩]
def o54_7 : List AOper := [⟨.move (.tmp 0), (some 33), none⟩,
  ⟨.move (.tmp 1), (some 34), none⟩,
  ⟨.move (.tmp 2), (some 35), none⟩,
  ⟨.move (.tmp 4), (some 36), none⟩,
  ⟨.call (.func 62) [(.tmp 33), (.tmp 34), (.tmp 35), (.tmp 36)], (some 37), none⟩]
def o54_8 : List AOper := [⟨.move (.tmp 10), (some 38), none⟩,
  ⟨.un .not (.tmp 38), (some 39), none⟩]
def o54_9 : List AOper := [⟨.move (.tmp 0), (some 40), none⟩,
  ⟨.move (.tmp 1), (some 41), none⟩,
  ⟨.move (.tmp 2), (some 42), none⟩,
  ⟨.move (.tmp 4), (some 43), none⟩,
  ⟨.call (.func 63) [(.tmp 40), (.tmp 41), (.tmp 42), (.tmp 43)], (some 44), none⟩]
def o54_10 : List AOper := [⟨.move (.tmp 3), (some 45), none⟩,
  ⟨.bin .sub (.tmp 45) (.const (.int .i64 1)), (some 46), none⟩,
  ⟨.move (.tmp 46), (some 3), none⟩]
def o54_11 : List AOper := [⟨.move (.tmp 0), (some 48), none⟩,
  ⟨.move (.tmp 1), (some 49), none⟩,
  ⟨.move (.tmp 2), (some 50), none⟩,
  ⟨.move (.tmp 4), (some 51), none⟩,
  ⟨.call (.func 64) [(.tmp 48), (.tmp 49), (.tmp 50), (.tmp 51)], (some 52), none⟩,
  ⟨.move (.tmp 52), (some 47), none⟩,
  ⟨.extract (.tmp 47) 0, (some 53), none⟩,
  ⟨.extract (.tmp 47) 1, (some 54), none⟩,
  ⟨.move (.tmp 53), (some 13), none⟩,
  ⟨.move (.tmp 54), (some 14), none⟩]
def o54_12 : List AOper := [⟨.move (.tmp 14), (some 55), none⟩,
  ⟨.bin .eql (.tmp 55) (.const (.int .i64 2)), (some 56), none⟩]
def o54_13 : List AOper := [⟨.move (.tmp 0), (some 57), none⟩,
  ⟨.move (.tmp 1), (some 58), none⟩,
  ⟨.move (.tmp 2), (some 59), none⟩,
  ⟨.move (.tmp 4), (some 60), none⟩,
  ⟨.call (.func 65) [(.tmp 57), (.tmp 58), (.tmp 59), (.tmp 60)], (some 61), none⟩]
def o54_14 : List AOper := [⟨.move (.tmp 2), (some 62), none⟩,
  ⟨.bin .sub (.tmp 62) (.const (.int .i64 1)), (some 63), none⟩,
  ⟨.move (.tmp 13), (some 64), none⟩,
  ⟨.move (.tmp 1), (some 65), none⟩,
  ⟨.bin .sub (.tmp 64) (.tmp 65), (some 66), none⟩,
  ⟨.bin .sub (.tmp 63) (.tmp 66), (some 67), none⟩,
  ⟨.move (.tmp 67), (some 13), none⟩]
def o54_15 : List AOper := [⟨.move (.const (.int .i64 1)), (some 14), none⟩]
def o54_16 : List AOper := [⟨.move (.tmp 10), (some 68), none⟩,
  ⟨.move (.tmp 68), (some 69), none⟩,
  ⟨.move (.tmp 11), (some 70), (some (69, true))⟩,
  ⟨.pick (.tmp 69) (.tmp 70) (.const (.bool false)), (some 71), none⟩,
  ⟨.move (.tmp 71), (some 72), none⟩,
  ⟨.move (.tmp 14), (some 73), (some (72, true))⟩,
  ⟨.bin .eql (.tmp 73) (.const (.int .i64 1)), (some 74), (some (72, true))⟩,
  ⟨.pick (.tmp 72) (.tmp 74) (.const (.bool false)), (some 75), none⟩]
def o54_17 : List AOper := [⟨.move (.tmp 0), (some 76), none⟩,
  ⟨.move (.tmp 1), (some 77), none⟩,
  ⟨.move (.tmp 2), (some 78), none⟩,
  ⟨.move (.tmp 4), (some 79), none⟩,
  ⟨.call (.func 66) [(.tmp 76), (.tmp 77), (.tmp 78), (.tmp 79)], (some 80), none⟩]
def d54_18 : List DOper := [⟨⟨.move (.tmp 1), (some 81), none⟩, 0⟩,
  ⟨⟨.bin .gtr (.tmp 81) (.const (.int .i64 0)), (some 82), none⟩, 1⟩,
  ⟨⟨.move (.tmp 82), (some 83), none⟩, 3⟩,
  ⟨⟨.move (.tmp 4), (some 84), (some (83, true))⟩, 7⟩,
  ⟨⟨.move (.tmp 0), (some 85), (some (83, true))⟩, 7⟩,
  ⟨⟨.move (.tmp 1), (some 86), (some (83, true))⟩, 7⟩,
  ⟨⟨.bin .sub (.tmp 86) (.const (.int .i64 1)), (some 87), (some (83, true))⟩, 39⟩,
  ⟨⟨.addrSl 3 (.tmp 85) (.tmp 87), (some 88), (some (83, true))⟩, 119⟩,
  ⟨⟨.load (some 3) (.tmp 88), (some 89), (some (83, true))⟩, 247⟩,
  ⟨⟨.move (.tmp 0), (some 90), (some (83, true))⟩, 7⟩,
  ⟨⟨.move (.tmp 13), (some 91), (some (83, true))⟩, 7⟩,
  ⟨⟨.addrSl 3 (.tmp 90) (.tmp 91), (some 92), (some (83, true))⟩, 1543⟩,
  ⟨⟨.load (some 3) (.tmp 92), (some 93), (some (83, true))⟩, 3591⟩,
  ⟨⟨.call (.tmp 84) [(.tmp 89), (.tmp 93)], (some 94), (some (83, true))⟩, 8191⟩,
  ⟨⟨.bin .lss (.tmp 94) (.const (.int .i64 0)), (some 95), (some (83, true))⟩, 16383⟩,
  ⟨⟨.un .not (.tmp 95), (some 96), (some (83, true))⟩, 32767⟩,
  ⟨⟨.pick (.tmp 83) (.tmp 96) (.const (.bool false)), (some 97), none⟩, 65535⟩]
def o54_19 : List AOper := [⟨.move (.tmp 0), (some 98), none⟩,
  ⟨.move (.tmp 1), (some 99), none⟩,
  ⟨.move (.tmp 2), (some 100), none⟩,
  ⟨.move (.tmp 13), (some 101), none⟩,
  ⟨.move (.tmp 4), (some 102), none⟩,
  ⟨.call (.func 67) [(.tmp 98), (.tmp 99), (.tmp 100), (.tmp 101), (.tmp 102)], (some 103), none⟩,
  ⟨.move (.tmp 103), (some 15), none⟩]
def o54_20 : List AOper := [⟨.move (.tmp 15), (some 104), none⟩,
  ⟨.move (.tmp 104), (some 1), none⟩]
def o54_21 : List AOper := [⟨.move (.tmp 0), (some 106), none⟩,
  ⟨.move (.tmp 1), (some 107), none⟩,
  ⟨.move (.tmp 2), (some 108), none⟩,
  ⟨.move (.tmp 13), (some 109), none⟩,
  ⟨.move (.tmp 4), (some 110), none⟩,
  ⟨.call (.func 68) [(.tmp 106), (.tmp 107), (.tmp 108), (.tmp 109), (.tmp 110)], (some 111), none⟩,
  ⟨.move (.tmp 111), (some 105), none⟩,
  ⟨.extract (.tmp 105) 0, (some 112), none⟩,
  ⟨.extract (.tmp 105) 1, (some 113), none⟩,
  ⟨.move (.tmp 112), (some 16), none⟩,
  ⟨.move (.tmp 113), (some 17), none⟩]
def o54_22 : List AOper := [⟨.move (.tmp 17), (some 114), none⟩,
  ⟨.move (.tmp 114), (some 11), none⟩]
def o54_23 : List AOper := [⟨.move (.tmp 16), (some 115), none⟩,
  ⟨.move (.tmp 1), (some 116), none⟩,
  ⟨.bin .sub (.tmp 115) (.tmp 116), (some 117), none⟩,
  ⟨.move (.tmp 2), (some 118), none⟩,
  ⟨.move (.tmp 16), (some 119), none⟩,
  ⟨.bin .sub (.tmp 118) (.tmp 119), (some 120), none⟩,
  ⟨.move (.tmp 117), (some 18), none⟩,
  ⟨.move (.tmp 120), (some 19), none⟩]
def o54_24 : List AOper := [⟨.move (.tmp 12), (some 121), none⟩,
  ⟨.bin .quo (.tmp 121) (.const (.int .i64 8)), (some 122), none⟩,
  ⟨.move (.tmp 122), (some 20), none⟩]
def o54_25 : List AOper := [⟨.move (.tmp 18), (some 123), none⟩,
  ⟨.move (.tmp 19), (some 124), none⟩,
  ⟨.bin .lss (.tmp 123) (.tmp 124), (some 125), none⟩]
def o54_26 : List AOper := [⟨.move (.tmp 18), (some 126), none⟩,
  ⟨.move (.tmp 20), (some 127), none⟩,
  ⟨.bin .geq (.tmp 126) (.tmp 127), (some 128), none⟩,
  ⟨.move (.tmp 128), (some 10), none⟩]
def o54_27 : List AOper := [⟨.move (.tmp 0), (some 129), none⟩,
  ⟨.move (.tmp 1), (some 130), none⟩,
  ⟨.move (.tmp 16), (some 131), none⟩,
  ⟨.move (.tmp 3), (some 132), none⟩,
  ⟨.move (.tmp 4), (some 133), none⟩,
  ⟨.call (.func 54) [(.tmp 129), (.tmp 130), (.tmp 131), (.tmp 132), (.tmp 133)], (some 134), none⟩]
def o54_28 : List AOper := [⟨.move (.tmp 16), (some 135), none⟩,
  ⟨.bin .add (.tmp 135) (.const (.int .i64 1)), (some 136), none⟩,
  ⟨.move (.tmp 136), (some 1), none⟩]
def o54_29 : List AOper := [⟨.move (.tmp 19), (some 137), none⟩,
  ⟨.move (.tmp 20), (some 138), none⟩,
  ⟨.bin .geq (.tmp 137) (.tmp 138), (some 139), none⟩,
  ⟨.move (.tmp 139), (some 10), none⟩]
def o54_30 : List AOper := [⟨.move (.tmp 0), (some 140), none⟩,
  ⟨.move (.tmp 16), (some 141), none⟩,
  ⟨.bin .add (.tmp 141) (.const (.int .i64 1)), (some 142), none⟩,
  ⟨.move (.tmp 2), (some 143), none⟩,
  ⟨.move (.tmp 3), (some 144), none⟩,
  ⟨.move (.tmp 4), (some 145), none⟩,
  ⟨.call (.func 54) [(.tmp 140), (.tmp 142), (.tmp 143), (.tmp 144), (.tmp 145)], (some 146), none⟩]
def o54_31 : List AOper := [⟨.move (.tmp 16), (some 147), none⟩,
  ⟨.move (.tmp 147), (some 2), none⟩]
def b54_2 : ACode := (.block 1 (.seq (.ops o54_3) (.seq (.seq (.ops o54_4) (.cond (.tmp 25) (.seq (.ops o54_5) .ret) .skip)) (.seq (.seq (.ops o54_6) (.cond (.tmp 32) (.seq (.ops o54_7) .ret) .skip)) (.seq (.seq (.ops o54_8) (.cond (.tmp 39) (.seq (.ops o54_9) (.ops o54_10)) .skip)) (.seq (.ops o54_11) (.seq (.seq (.ops o54_12) (.cond (.tmp 56) (.seq (.ops o54_13) (.seq (.ops o54_14) (.ops o54_15))) .skip)) (.seq (.seq (.ops o54_16) (.cond (.tmp 75) (.seq (.ops o54_17) (.cond (.tmp 80) .ret .skip)) .skip)) (.seq (.seq (.draw d54_18) (.cond (.tmp 97) (.seq (.ops o54_19) (.seq (.ops o54_20) (.exit 1))) .skip)) (.seq (.ops o54_21) (.seq (.ops o54_22) (.seq (.ops o54_23) (.seq (.ops o54_24) (.seq (.ops o54_25) (.cond (.tmp 125) (.seq (.ops o54_26) (.seq (.ops o54_27) (.ops o54_28))) (.seq (.ops o54_29) (.seq (.ops o54_30) (.ops o54_31))))))))))))))))))
def ir54 : AFn := ⟨148, [], (.seq (.ops o54_0) (.seq (.ops o54_1) (.block 0 (.loop b54_2))))⟩
theorem ir54_eq : fnsOf Try.prog 54 = some ir54 := by kernel_rfl
def o61_0 : List AOper := [⟨.move (.tmp 1), (some 10), none⟩,
  ⟨.bin .add (.tmp 10) (.const (.int .i64 1)), (some 11), none⟩,
  ⟨.move (.tmp 11), (some 8), none⟩]
def o61_2 : List AOper := [⟨.move (.tmp 8), (some 12), none⟩,
  ⟨.move (.tmp 2), (some 13), none⟩,
  ⟨.bin .lss (.tmp 12) (.tmp 13), (some 14), none⟩]
def o61_3 : List AOper := [⟨.move (.tmp 8), (some 17), none⟩,
  ⟨.move (.tmp 17), (some 9), none⟩]
def d61_5 : List DOper := [⟨⟨.move (.tmp 9), (some 18), none⟩, 0⟩,
  ⟨⟨.move (.tmp 1), (some 19), none⟩, 0⟩,
  ⟨⟨.bin .gtr (.tmp 18) (.tmp 19), (some 20), none⟩, 3⟩,
  ⟨⟨.move (.tmp 20), (some 21), none⟩, 7⟩,
  ⟨⟨.move (.tmp 3), (some 22), (some (21, true))⟩, 15⟩,
  ⟨⟨.move (.tmp 0), (some 23), (some (21, true))⟩, 15⟩,
  ⟨⟨.move (.tmp 9), (some 24), (some (21, true))⟩, 15⟩,
  ⟨⟨.addrSl 3 (.tmp 23) (.tmp 24), (some 25), (some (21, true))⟩, 111⟩,
  ⟨⟨.load (some 3) (.tmp 25), (some 26), (some (21, true))⟩, 239⟩,
  ⟨⟨.move (.tmp 0), (some 27), (some (21, true))⟩, 15⟩,
  ⟨⟨.move (.tmp 9), (some 28), (some (21, true))⟩, 15⟩,
  ⟨⟨.bin .sub (.tmp 28) (.const (.int .i64 1)), (some 29), (some (21, true))⟩, 1039⟩,
  ⟨⟨.addrSl 3 (.tmp 27) (.tmp 29), (some 30), (some (21, true))⟩, 3599⟩,
  ⟨⟨.load (some 3) (.tmp 30), (some 31), (some (21, true))⟩, 7695⟩,
  ⟨⟨.call (.tmp 22) [(.tmp 26), (.tmp 31)], (some 32), (some (21, true))⟩, 16383⟩,
  ⟨⟨.bin .lss (.tmp 32) (.const (.int .i64 0)), (some 33), (some (21, true))⟩, 32767⟩,
  ⟨⟨.pick (.tmp 21) (.tmp 33) (.const (.bool false)), (some 34), none⟩, 65535⟩]
def d61_6 : List DOper := [⟨⟨.move (.tmp 0), (some 37), none⟩, 0⟩,
  ⟨⟨.move (.tmp 9), (some 38), none⟩, 0⟩,
  ⟨⟨.move (.tmp 0), (some 39), none⟩, 0⟩,
  ⟨⟨.move (.tmp 9), (some 40), none⟩, 0⟩,
  ⟨⟨.bin .sub (.tmp 40) (.const (.int .i64 1)), (some 41), none⟩, 8⟩,
  ⟨⟨.move (.tmp 0), (some 42), none⟩, 0⟩,
  ⟨⟨.move (.tmp 9), (some 43), none⟩, 0⟩,
  ⟨⟨.bin .sub (.tmp 43) (.const (.int .i64 1)), (some 44), none⟩, 64⟩,
  ⟨⟨.addrSl 3 (.tmp 42) (.tmp 44), (some 45), none⟩, 224⟩,
  ⟨⟨.load (some 3) (.tmp 45), (some 46), none⟩, 480⟩,
  ⟨⟨.move (.tmp 0), (some 47), none⟩, 0⟩,
  ⟨⟨.move (.tmp 9), (some 48), none⟩, 0⟩,
  ⟨⟨.addrSl 3 (.tmp 47) (.tmp 48), (some 49), none⟩, 3072⟩,
  ⟨⟨.load (some 3) (.tmp 49), (some 50), none⟩, 7168⟩,
  ⟨⟨.addrSl 3 (.tmp 37) (.tmp 38), (some 51), none⟩, 16355⟩,
  ⟨⟨.store 3 (.tmp 51) (.tmp 46), none, none⟩, 32739⟩,
  ⟨⟨.addrSl 3 (.tmp 39) (.tmp 41), (some 52), none⟩, 65535⟩,
  ⟨⟨.store 3 (.tmp 52) (.tmp 50), none, none⟩, 131071⟩]
def o61_7 : List AOper := [⟨.move (.tmp 9), (some 35), none⟩,
  ⟨.bin .sub (.tmp 35) (.const (.int .i64 1)), (some 36), none⟩,
  ⟨.move (.tmp 36), (some 9), none⟩]
def b61_4 : ACode := (.seq (.seq (.draw d61_5) (.cond (.tmp 34) .skip (.exit 2))) (.seq (.block 3 (.draw d61_6)) (.ops o61_7)))
def o61_8 : List AOper := [⟨.move (.tmp 8), (some 15), none⟩,
  ⟨.bin .add (.tmp 15) (.const (.int .i64 1)), (some 16), none⟩,
  ⟨.move (.tmp 16), (some 8), none⟩]
def b61_1 : ACode := (.seq (.seq (.ops o61_2) (.cond (.tmp 14) .skip (.exit 0))) (.seq (.block 1 (.seq (.ops o61_3) (.block 2 (.loop b61_4)))) (.ops o61_8)))
def ir61 : AFn := ⟨53, [], (.seq (.ops o61_0) (.block 0 (.loop b61_1)))⟩
theorem ir61_eq : fnsOf Try.prog 61 = some ir61 := by kernel_rfl
def o62_0 : List AOper := [⟨.move (.tmp 1), (some 13), none⟩,
  ⟨.move (.tmp 13), (some 8), none⟩]
def o62_1 : List AOper := [⟨.move (.const (.int .i64 0)), (some 9), none⟩]
def o62_2 : List AOper := [⟨.move (.tmp 2), (some 14), none⟩,
  ⟨.move (.tmp 1), (some 15), none⟩,
  ⟨.bin .sub (.tmp 14) (.tmp 15), (some 16), none⟩,
  ⟨.move (.tmp 16), (some 10), none⟩]
def o62_3 : List AOper := [⟨.move (.tmp 10), (some 17), none⟩,
  ⟨.bin .sub (.tmp 17) (.const (.int .i64 1)), (some 18), none⟩,
  ⟨.bin .quo (.tmp 18) (.const (.int .i64 2)), (some 19), none⟩,
  ⟨.move (.tmp 19), (some 11), none⟩]
def o62_5 : List AOper := [⟨.move (.tmp 11), (some 20), none⟩,
  ⟨.bin .geq (.tmp 20) (.const (.int .i64 0)), (some 21), none⟩]
def o62_6 : List AOper := [⟨.move (.tmp 0), (some 24), none⟩,
  ⟨.move (.tmp 11), (some 25), none⟩,
  ⟨.move (.tmp 10), (some 26), none⟩,
  ⟨.move (.tmp 8), (some 27), none⟩,
  ⟨.move (.tmp 3), (some 28), none⟩,
  ⟨.call (.func 79) [(.tmp 24), (.tmp 25), (.tmp 26), (.tmp 27), (.tmp 28)], (some 29), none⟩]
def o62_7 : List AOper := [⟨.move (.tmp 11), (some 22), none⟩,
  ⟨.bin .sub (.tmp 22) (.const (.int .i64 1)), (some 23), none⟩,
  ⟨.move (.tmp 23), (some 11), none⟩]
def b62_4 : ACode := (.seq (.seq (.ops o62_5) (.cond (.tmp 21) .skip (.exit 0))) (.seq (.block 1 (.ops o62_6)) (.ops o62_7)))
def o62_8 : List AOper := [⟨.move (.tmp 10), (some 30), none⟩,
  ⟨.bin .sub (.tmp 30) (.const (.int .i64 1)), (some 31), none⟩,
  ⟨.move (.tmp 31), (some 12), none⟩]
def o62_10 : List AOper := [⟨.move (.tmp 12), (some 32), none⟩,
  ⟨.bin .geq (.tmp 32) (.const (.int .i64 0)), (some 33), none⟩]
def d62_11 : List DOper := [⟨⟨.move (.tmp 0), (some 36), none⟩, 0⟩,
  ⟨⟨.move (.tmp 8), (some 37), none⟩, 0⟩,
  ⟨⟨.move (.tmp 0), (some 38), none⟩, 0⟩,
  ⟨⟨.move (.tmp 8), (some 39), none⟩, 0⟩,
  ⟨⟨.move (.tmp 12), (some 40), none⟩, 0⟩,
  ⟨⟨.bin .add (.tmp 39) (.tmp 40), (some 41), none⟩, 24⟩,
  ⟨⟨.move (.tmp 0), (some 42), none⟩, 0⟩,
  ⟨⟨.move (.tmp 8), (some 43), none⟩, 0⟩,
  ⟨⟨.move (.tmp 12), (some 44), none⟩, 0⟩,
  ⟨⟨.bin .add (.tmp 43) (.tmp 44), (some 45), none⟩, 384⟩,
  ⟨⟨.addrSl 3 (.tmp 42) (.tmp 45), (some 46), none⟩, 960⟩,
  ⟨⟨.load (some 3) (.tmp 46), (some 47), none⟩, 1984⟩,
  ⟨⟨.move (.tmp 0), (some 48), none⟩, 0⟩,
  ⟨⟨.move (.tmp 8), (some 49), none⟩, 0⟩,
  ⟨⟨.addrSl 3 (.tmp 48) (.tmp 49), (some 50), none⟩, 12288⟩,
  ⟨⟨.load (some 3) (.tmp 50), (some 51), none⟩, 28672⟩,
  ⟨⟨.addrSl 3 (.tmp 36) (.tmp 37), (some 52), none⟩, 65475⟩,
  ⟨⟨.store 3 (.tmp 52) (.tmp 47), none, none⟩, 131011⟩,
  ⟨⟨.addrSl 3 (.tmp 38) (.tmp 41), (some 53), none⟩, 262143⟩,
  ⟨⟨.store 3 (.tmp 53) (.tmp 51), none, none⟩, 524287⟩]
def o62_12 : List AOper := [⟨.move (.tmp 0), (some 54), none⟩,
  ⟨.move (.tmp 9), (some 55), none⟩,
  ⟨.move (.tmp 12), (some 56), none⟩,
  ⟨.move (.tmp 8), (some 57), none⟩,
  ⟨.move (.tmp 3), (some 58), none⟩,
  ⟨.call (.func 79) [(.tmp 54), (.tmp 55), (.tmp 56), (.tmp 57), (.tmp 58)], (some 59), none⟩]
def o62_13 : List AOper := [⟨.move (.tmp 12), (some 34), none⟩,
  ⟨.bin .sub (.tmp 34) (.const (.int .i64 1)), (some 35), none⟩,
  ⟨.move (.tmp 35), (some 12), none⟩]
def b62_9 : ACode := (.seq (.seq (.ops o62_10) (.cond (.tmp 33) .skip (.exit 2))) (.seq (.block 3 (.seq (.draw d62_11) (.ops o62_12))) (.ops o62_13)))
def ir62 : AFn := ⟨60, [], (.seq (.ops o62_0) (.seq (.ops o62_1) (.seq (.ops o62_2) (.seq (.seq (.ops o62_3) (.block 0 (.loop b62_4))) (.seq (.ops o62_8) (.block 2 (.loop b62_9)))))))⟩
theorem ir62_eq : fnsOf Try.prog 62 = some ir62 := by kernel_rfl
def o63_0 : List AOper := [⟨.move (.tmp 2), (some 13), none⟩,
  ⟨.move (.tmp 1), (some 14), none⟩,
  ⟨.bin .sub (.tmp 13) (.tmp 14), (some 15), none⟩,
  ⟨.move (.tmp 15), (some 8), none⟩]
def o63_1 : List AOper := [⟨.move (.tmp 8), (some 16), none⟩,
  ⟨.bin .geq (.tmp 16) (.const (.int .i64 8)), (some 17), none⟩]
def o63_2 : List AOper := [⟨.move (.tmp 8), (some 18), none⟩,
  ⟨.conv (.toInt .u64) (.tmp 18), (some 19), none⟩,
  ⟨.alloc 102 [(.int .u64 0)], (some 9), none⟩,
  ⟨.store 1 (.tmp 9) (.tmp 19), none, none⟩]
def o63_3 : List AOper := [⟨.move (.tmp 8), (some 20), none⟩,
  ⟨.call (.func 80) [(.tmp 20)], (some 21), none⟩,
  ⟨.move (.tmp 21), (some 10), none⟩]
def o63_4 : List AOper := [⟨.move (.tmp 1), (some 22), none⟩,
  ⟨.move (.tmp 8), (some 23), none⟩,
  ⟨.bin .quo (.tmp 23) (.const (.int .i64 4)), (some 24), none⟩,
  ⟨.bin .mul (.tmp 24) (.const (.int .i64 2)), (some 25), none⟩,
  ⟨.bin .add (.tmp 22) (.tmp 25), (some 26), none⟩,
  ⟨.bin .sub (.tmp 26) (.const (.int .i64 1)), (some 27), none⟩,
  ⟨.move (.tmp 27), (some 11), none⟩]
def o63_6 : List AOper := [⟨.move (.tmp 11), (some 28), none⟩,
  ⟨.move (.tmp 1), (some 29), none⟩,
  ⟨.move (.tmp 8), (some 30), none⟩,
  ⟨.bin .quo (.tmp 30) (.const (.int .i64 4)), (some 31), none⟩,
  ⟨.bin .mul (.tmp 31) (.const (.int .i64 2)), (some 32), none⟩,
  ⟨.bin .add (.tmp 29) (.tmp 32), (some 33), none⟩,
  ⟨.bin .add (.tmp 33) (.const (.int .i64 1)), (some 34), none⟩,
  ⟨.bin .leq (.tmp 28) (.tmp 34), (some 35), none⟩]
def o63_7 : List AOper := [⟨.call (.func 81) [(.tmp 9)], (some 38), none⟩,
  ⟨.move (.tmp 10), (some 39), none⟩,
  ⟨.bin .sub (.tmp 39) (.const (.int .u64 1)), (some 40), none⟩,
  ⟨.bin .and (.tmp 38) (.tmp 40), (some 41), none⟩,
  ⟨.conv (.toInt .i64) (.tmp 41), (some 42), none⟩,
  ⟨.move (.tmp 42), (some 12), none⟩]
def o63_8 : List AOper := [⟨.move (.tmp 12), (some 43), none⟩,
  ⟨.move (.tmp 8), (some 44), none⟩,
  ⟨.bin .geq (.tmp 43) (.tmp 44), (some 45), none⟩]
def o63_9 : List AOper := [⟨.move (.tmp 12), (some 46), none⟩,
  ⟨.move (.tmp 8), (some 47), none⟩,
  ⟨.bin .sub (.tmp 46) (.tmp 47), (some 48), none⟩,
  ⟨.move (.tmp 48), (some 12), none⟩]
def d63_10 : List DOper := [⟨⟨.move (.tmp 0), (some 49), none⟩, 0⟩,
  ⟨⟨.move (.tmp 11), (some 50), none⟩, 0⟩,
  ⟨⟨.move (.tmp 0), (some 51), none⟩, 0⟩,
  ⟨⟨.move (.tmp 1), (some 52), none⟩, 0⟩,
  ⟨⟨.move (.tmp 12), (some 53), none⟩, 0⟩,
  ⟨⟨.bin .add (.tmp 52) (.tmp 53), (some 54), none⟩, 24⟩,
  ⟨⟨.move (.tmp 0), (some 55), none⟩, 0⟩,
  ⟨⟨.move (.tmp 1), (some 56), none⟩, 0⟩,
  ⟨⟨.move (.tmp 12), (some 57), none⟩, 0⟩,
  ⟨⟨.bin .add (.tmp 56) (.tmp 57), (some 58), none⟩, 384⟩,
  ⟨⟨.addrSl 3 (.tmp 55) (.tmp 58), (some 59), none⟩, 960⟩,
  ⟨⟨.load (some 3) (.tmp 59), (some 60), none⟩, 1984⟩,
  ⟨⟨.move (.tmp 0), (some 61), none⟩, 0⟩,
  ⟨⟨.move (.tmp 11), (some 62), none⟩, 0⟩,
  ⟨⟨.addrSl 3 (.tmp 61) (.tmp 62), (some 63), none⟩, 12288⟩,
  ⟨⟨.load (some 3) (.tmp 63), (some 64), none⟩, 28672⟩,
  ⟨⟨.addrSl 3 (.tmp 49) (.tmp 50), (some 65), none⟩, 65475⟩,
  ⟨⟨.store 3 (.tmp 65) (.tmp 60), none, none⟩, 131011⟩,
  ⟨⟨.addrSl 3 (.tmp 51) (.tmp 54), (some 66), none⟩, 262143⟩,
  ⟨⟨.store 3 (.tmp 66) (.tmp 64), none, none⟩, 524287⟩]
def o63_11 : List AOper := [⟨.move (.tmp 11), (some 36), none⟩,
  ⟨.bin .add (.tmp 36) (.const (.int .i64 1)), (some 37), none⟩,
  ⟨.move (.tmp 37), (some 11), none⟩]
def b63_5 : ACode := (.seq (.seq (.ops o63_6) (.cond (.tmp 35) .skip (.exit 0))) (.seq (.block 1 (.seq (.ops o63_7) (.seq (.seq (.ops o63_8) (.cond (.tmp 45) (.ops o63_9) .skip)) (.draw d63_10)))) (.ops o63_11)))
def ir63 : AFn := ⟨67, [], (.seq (.ops o63_0) (.seq (.ops o63_1) (.cond (.tmp 17) (.seq (.ops o63_2) (.seq (.ops o63_3) (.seq (.ops o63_4) (.block 0 (.loop b63_5))))) .skip)))⟩
theorem ir63_eq : fnsOf Try.prog 63 = some ir63 := by kernel_rfl
def o64_0 : List AOper := [⟨.move (.const (.int .i64 0)), (some 8), none⟩,
  ⟨.move (.const (.int .i64 0)), (some 9), none⟩]
def o64_1 : List AOper := [⟨.move (.tmp 2), (some 15), none⟩,
  ⟨.move (.tmp 1), (some 16), none⟩,
  ⟨.bin .sub (.tmp 15) (.tmp 16), (some 17), none⟩,
  ⟨.move (.tmp 17), (some 10), none⟩]
def o64_2 : List AOper := [⟨.alloc 3 [(.int .i64 0)], (some 11), none⟩]
def o64_3 : List AOper := [⟨.move (.tmp 1), (some 18), none⟩,
  ⟨.move (.tmp 10), (some 19), none⟩,
  ⟨.bin .quo (.tmp 19) (.const (.int .i64 4)), (some 20), none⟩,
  ⟨.bin .mul (.tmp 20) (.const (.int .i64 1)), (some 21), none⟩,
  ⟨.bin .add (.tmp 18) (.tmp 21), (some 22), none⟩,
  ⟨.move (.tmp 22), (some 12), none⟩]
def o64_4 : List AOper := [⟨.move (.tmp 1), (some 23), none⟩,
  ⟨.move (.tmp 10), (some 24), none⟩,
  ⟨.bin .quo (.tmp 24) (.const (.int .i64 4)), (some 25), none⟩,
  ⟨.bin .mul (.tmp 25) (.const (.int .i64 2)), (some 26), none⟩,
  ⟨.bin .add (.tmp 23) (.tmp 26), (some 27), none⟩,
  ⟨.move (.tmp 27), (some 13), none⟩]
def o64_5 : List AOper := [⟨.move (.tmp 1), (some 28), none⟩,
  ⟨.move (.tmp 10), (some 29), none⟩,
  ⟨.bin .quo (.tmp 29) (.const (.int .i64 4)), (some 30), none⟩,
  ⟨.bin .mul (.tmp 30) (.const (.int .i64 3)), (some 31), none⟩,
  ⟨.bin .add (.tmp 28) (.tmp 31), (some 32), none⟩,
  ⟨.move (.tmp 32), (some 14), none⟩]
def o64_6 : List AOper := [⟨.move (.tmp 10), (some 33), none⟩,
  ⟨.bin .geq (.tmp 33) (.const (.int .i64 8)), (some 34), none⟩]
def o64_7 : List AOper := [⟨.move (.tmp 10), (some 35), none⟩,
  ⟨.bin .geq (.tmp 35) (.const (.int .i64 50)), (some 36), none⟩]
def o64_8 : List AOper := [⟨.move (.tmp 0), (some 37), none⟩,
  ⟨.move (.tmp 12), (some 38), none⟩,
  ⟨.move (.tmp 3), (some 39), none⟩,
  ⟨.call (.func 82) [(.tmp 37), (.tmp 38), (.tmp 11), (.tmp 39)], (some 40), none⟩,
  ⟨.move (.tmp 40), (some 12), none⟩]
def o64_9 : List AOper := [⟨.move (.tmp 0), (some 41), none⟩,
  ⟨.move (.tmp 13), (some 42), none⟩,
  ⟨.move (.tmp 3), (some 43), none⟩,
  ⟨.call (.func 82) [(.tmp 41), (.tmp 42), (.tmp 11), (.tmp 43)], (some 44), none⟩,
  ⟨.move (.tmp 44), (some 13), none⟩]
def o64_10 : List AOper := [⟨.move (.tmp 0), (some 45), none⟩,
  ⟨.move (.tmp 14), (some 46), none⟩,
  ⟨.move (.tmp 3), (some 47), none⟩,
  ⟨.call (.func 82) [(.tmp 45), (.tmp 46), (.tmp 11), (.tmp 47)], (some 48), none⟩,
  ⟨.move (.tmp 48), (some 14), none⟩]
def o64_11 : List AOper := [⟨.move (.tmp 0), (some 49), none⟩,
  ⟨.move (.tmp 12), (some 50), none⟩,
  ⟨.move (.tmp 13), (some 51), none⟩,
  ⟨.move (.tmp 14), (some 52), none⟩,
  ⟨.move (.tmp 3), (some 53), none⟩,
  ⟨.call (.func 83) [(.tmp 49), (.tmp 50), (.tmp 51), (.tmp 52), (.tmp 11), (.tmp 53)], (some 54), none⟩,
  ⟨.move (.tmp 54), (some 13), none⟩]
def o64_12 : List AOper := [⟨.load none (.tmp 11), (some 55), none⟩]
def o64_13 : List AOper := [⟨.bin .eql (.tmp 55) (.const (.int .i64 0)), (some 58), none⟩,
  ⟨.move (.tmp 58), (some 57), none⟩]
def o64_14 : List AOper := [⟨.move (.tmp 13), (some 59), none⟩,
  ⟨.move (.tmp 59), (some 8), none⟩,
  ⟨.move (.const (.int .i64 1)), (some 9), none⟩]
def o64_15 : List AOper := [⟨.bin .eql (.tmp 55) (.const (.int .i64 12)), (some 61), none⟩,
  ⟨.move (.tmp 61), (some 60), none⟩]
def o64_16 : List AOper := [⟨.move (.tmp 13), (some 62), none⟩,
  ⟨.move (.tmp 62), (some 8), none⟩,
  ⟨.move (.const (.int .i64 2)), (some 9), none⟩]
def o64_17 : List AOper := [⟨.move (.tmp 13), (some 56), none⟩,
  ⟨.move (.tmp 56), (some 8), none⟩,
  ⟨.move (.const (.int .i64 0)), (some 9), none⟩]
def ir64 : AFn := ⟨63, [.tmp 8, .tmp 9], (.seq (.ops o64_0) (.seq (.ops o64_1) (.seq (.ops o64_2) (.seq (.ops o64_3) (.seq (.ops o64_4) (.seq (.ops o64_5) (.seq (.seq (.ops o64_6) (.cond (.tmp 34) (.seq (.seq (.ops o64_7) (.cond (.tmp 36) (.seq (.ops o64_8) (.seq (.ops o64_9) (.ops o64_10))) .skip)) (.ops o64_11)) .skip)) (.seq (.ops o64_12) (.block 0 (.seq (.ops o64_13) (.cond (.tmp 57) (.seq (.ops o64_14) .ret) (.seq (.ops o64_15) (.cond (.tmp 60) (.seq (.ops o64_16) .ret) (.seq (.ops o64_17) .ret))))))))))))))⟩
theorem ir64_eq : fnsOf Try.prog 64 = some ir64 := by kernel_rfl
def o65_0 : List AOper := [⟨.move (.tmp 1), (some 10), none⟩,
  ⟨.move (.tmp 10), (some 8), none⟩]
def o65_1 : List AOper := [⟨.move (.tmp 2), (some 11), none⟩,
  ⟨.bin .sub (.tmp 11) (.const (.int .i64 1)), (some 12), none⟩,
  ⟨.move (.tmp 12), (some 9), none⟩]
def o65_3 : List AOper := [⟨.move (.tmp 8), (some 13), none⟩,
  ⟨.move (.tmp 9), (some 14), none⟩,
  ⟨.bin .lss (.tmp 13) (.tmp 14), (some 15), none⟩]
def d65_4 : List DOper := [⟨⟨.move (.tmp 0), (some 16), none⟩, 0⟩,
  ⟨⟨.move (.tmp 8), (some 17), none⟩, 0⟩,
  ⟨⟨.move (.tmp 0), (some 18), none⟩, 0⟩,
  ⟨⟨.move (.tmp 9), (some 19), none⟩, 0⟩,
  ⟨⟨.move (.tmp 0), (some 20), none⟩, 0⟩,
  ⟨⟨.move (.tmp 9), (some 21), none⟩, 0⟩,
  ⟨⟨.addrSl 3 (.tmp 20) (.tmp 21), (some 22), none⟩, 48⟩,
  ⟨⟨.load (some 3) (.tmp 22), (some 23), none⟩, 112⟩,
  ⟨⟨.move (.tmp 0), (some 24), none⟩, 0⟩,
  ⟨⟨.move (.tmp 8), (some 25), none⟩, 0⟩,
  ⟨⟨.addrSl 3 (.tmp 24) (.tmp 25), (some 26), none⟩, 768⟩,
  ⟨⟨.load (some 3) (.tmp 26), (some 27), none⟩, 1792⟩,
  ⟨⟨.addrSl 3 (.tmp 16) (.tmp 17), (some 28), none⟩, 4083⟩,
  ⟨⟨.store 3 (.tmp 28) (.tmp 23), none, none⟩, 8179⟩,
  ⟨⟨.addrSl 3 (.tmp 18) (.tmp 19), (some 29), none⟩, 16383⟩,
  ⟨⟨.store 3 (.tmp 29) (.tmp 27), none, none⟩, 32767⟩]
def o65_5 : List AOper := [⟨.move (.tmp 8), (some 30), none⟩,
  ⟨.bin .add (.tmp 30) (.const (.int .i64 1)), (some 31), none⟩,
  ⟨.move (.tmp 31), (some 8), none⟩]
def o65_6 : List AOper := [⟨.move (.tmp 9), (some 32), none⟩,
  ⟨.bin .sub (.tmp 32) (.const (.int .i64 1)), (some 33), none⟩,
  ⟨.move (.tmp 33), (some 9), none⟩]
def b65_2 : ACode := (.seq (.seq (.ops o65_3) (.cond (.tmp 15) .skip (.exit 0))) (.block 1 (.seq (.draw d65_4) (.seq (.ops o65_5) (.ops o65_6)))))
def ir65 : AFn := ⟨34, [], (.seq (.ops o65_0) (.seq (.ops o65_1) (.block 0 (.loop b65_2))))⟩
theorem ir65_eq : fnsOf Try.prog 65 = some ir65 := by kernel_rfl
def o66_0 : List AOper := [⟨.move (.const (.bool false)), (some 8), none⟩]
def o66_1 : List AOper := [⟨.move (.tmp 1), (some 13), none⟩,
  ⟨.bin .add (.tmp 13) (.const (.int .i64 1)), (some 14), none⟩,
  ⟨.move (.tmp 14), (some 9), none⟩]
def o66_2 : List AOper := [⟨.move (.const (.int .i64 0)), (some 10), none⟩]
def o66_4 : List AOper := [⟨.move (.tmp 10), (some 15), none⟩,
  ⟨.bin .lss (.tmp 15) (.const (.int .i64 5)), (some 16), none⟩]
def d66_6 : List DOper := [⟨⟨.move (.tmp 9), (some 19), none⟩, 0⟩,
  ⟨⟨.move (.tmp 2), (some 20), none⟩, 0⟩,
  ⟨⟨.bin .lss (.tmp 19) (.tmp 20), (some 21), none⟩, 3⟩,
  ⟨⟨.move (.tmp 21), (some 22), none⟩, 7⟩,
  ⟨⟨.move (.tmp 3), (some 23), (some (22, true))⟩, 15⟩,
  ⟨⟨.move (.tmp 0), (some 24), (some (22, true))⟩, 15⟩,
  ⟨⟨.move (.tmp 9), (some 25), (some (22, true))⟩, 15⟩,
  ⟨⟨.addrSl 3 (.tmp 24) (.tmp 25), (some 26), (some (22, true))⟩, 111⟩,
  ⟨⟨.load (some 3) (.tmp 26), (some 27), (some (22, true))⟩, 239⟩,
  ⟨⟨.move (.tmp 0), (some 28), (some (22, true))⟩, 15⟩,
  ⟨⟨.move (.tmp 9), (some 29), (some (22, true))⟩, 15⟩,
  ⟨⟨.bin .sub (.tmp 29) (.const (.int .i64 1)), (some 30), (some (22, true))⟩, 1039⟩,
  ⟨⟨.addrSl 3 (.tmp 28) (.tmp 30), (some 31), (some (22, true))⟩, 3599⟩,
  ⟨⟨.load (some 3) (.tmp 31), (some 32), (some (22, true))⟩, 7695⟩,
  ⟨⟨.call (.tmp 23) [(.tmp 27), (.tmp 32)], (some 33), (some (22, true))⟩, 16383⟩,
  ⟨⟨.bin .lss (.tmp 33) (.const (.int .i64 0)), (some 34), (some (22, true))⟩, 32767⟩,
  ⟨⟨.un .not (.tmp 34), (some 35), (some (22, true))⟩, 65535⟩,
  ⟨⟨.pick (.tmp 22) (.tmp 35) (.const (.bool false)), (some 36), none⟩, 131071⟩]
def o66_7 : List AOper := [⟨.move (.tmp 9), (some 37), none⟩,
  ⟨.bin .add (.tmp 37) (.const (.int .i64 1)), (some 38), none⟩,
  ⟨.move (.tmp 38), (some 9), none⟩]
def b66_5 : ACode := (.seq (.seq (.draw d66_6) (.cond (.tmp 36) .skip (.exit 2))) (.block 3 (.ops o66_7)))
def o66_8 : List AOper := [⟨.move (.tmp 9), (some 39), none⟩,
  ⟨.move (.tmp 2), (some 40), none⟩,
  ⟨.bin .eql (.tmp 39) (.tmp 40), (some 41), none⟩]
def o66_9 : List AOper := [⟨.move (.const (.bool true)), (some 8), none⟩]
def o66_10 : List AOper := [⟨.move (.tmp 2), (some 42), none⟩,
  ⟨.move (.tmp 1), (some 43), none⟩,
  ⟨.bin .sub (.tmp 42) (.tmp 43), (some 44), none⟩,
  ⟨.bin .lss (.tmp 44) (.const (.int .i64 50)), (some 45), none⟩]
def o66_11 : List AOper := [⟨.move (.const (.bool false)), (some 8), none⟩]
def d66_12 : List DOper := [⟨⟨.move (.tmp 0), (some 46), none⟩, 0⟩,
  ⟨⟨.move (.tmp 9), (some 47), none⟩, 0⟩,
  ⟨⟨.move (.tmp 0), (some 48), none⟩, 0⟩,
  ⟨⟨.move (.tmp 9), (some 49), none⟩, 0⟩,
  ⟨⟨.bin .sub (.tmp 49) (.const (.int .i64 1)), (some 50), none⟩, 8⟩,
  ⟨⟨.move (.tmp 0), (some 51), none⟩, 0⟩,
  ⟨⟨.move (.tmp 9), (some 52), none⟩, 0⟩,
  ⟨⟨.bin .sub (.tmp 52) (.const (.int .i64 1)), (some 53), none⟩, 64⟩,
  ⟨⟨.addrSl 3 (.tmp 51) (.tmp 53), (some 54), none⟩, 224⟩,
  ⟨⟨.load (some 3) (.tmp 54), (some 55), none⟩, 480⟩,
  ⟨⟨.move (.tmp 0), (some 56), none⟩, 0⟩,
  ⟨⟨.move (.tmp 9), (some 57), none⟩, 0⟩,
  ⟨⟨.addrSl 3 (.tmp 56) (.tmp 57), (some 58), none⟩, 3072⟩,
  ⟨⟨.load (some 3) (.tmp 58), (some 59), none⟩, 7168⟩,
  ⟨⟨.addrSl 3 (.tmp 46) (.tmp 47), (some 60), none⟩, 16355⟩,
  ⟨⟨.store 3 (.tmp 60) (.tmp 55), none, none⟩, 32739⟩,
  ⟨⟨.addrSl 3 (.tmp 48) (.tmp 50), (some 61), none⟩, 65535⟩,
  ⟨⟨.store 3 (.tmp 61) (.tmp 59), none, none⟩, 131071⟩]
def o66_13 : List AOper := [⟨.move (.tmp 9), (some 62), none⟩,
  ⟨.move (.tmp 1), (some 63), none⟩,
  ⟨.bin .sub (.tmp 62) (.tmp 63), (some 64), none⟩,
  ⟨.bin .geq (.tmp 64) (.const (.int .i64 2)), (some 65), none⟩]
def o66_14 : List AOper := [⟨.move (.tmp 9), (some 66), none⟩,
  ⟨.bin .sub (.tmp 66) (.const (.int .i64 1)), (some 67), none⟩,
  ⟨.move (.tmp 67), (some 11), none⟩]
def o66_16 : List AOper := [⟨.move (.tmp 11), (some 68), none⟩,
  ⟨.bin .geq (.tmp 68) (.const (.int .i64 1)), (some 69), none⟩]
def d66_17 : List DOper := [⟨⟨.move (.tmp 3), (some 72), none⟩, 0⟩,
  ⟨⟨.move (.tmp 0), (some 73), none⟩, 0⟩,
  ⟨⟨.move (.tmp 11), (some 74), none⟩, 0⟩,
  ⟨⟨.addrSl 3 (.tmp 73) (.tmp 74), (some 75), none⟩, 6⟩,
  ⟨⟨.load (some 3) (.tmp 75), (some 76), none⟩, 14⟩,
  ⟨⟨.move (.tmp 0), (some 77), none⟩, 0⟩,
  ⟨⟨.move (.tmp 11), (some 78), none⟩, 0⟩,
  ⟨⟨.bin .sub (.tmp 78) (.const (.int .i64 1)), (some 79), none⟩, 64⟩,
  ⟨⟨.addrSl 3 (.tmp 77) (.tmp 79), (some 80), none⟩, 224⟩,
  ⟨⟨.load (some 3) (.tmp 80), (some 81), none⟩, 480⟩,
  ⟨⟨.call (.tmp 72) [(.tmp 76), (.tmp 81)], (some 82), none⟩, 1023⟩,
  ⟨⟨.bin .lss (.tmp 82) (.const (.int .i64 0)), (some 83), none⟩, 2047⟩,
  ⟨⟨.un .not (.tmp 83), (some 84), none⟩, 4095⟩]
def d66_18 : List DOper := [⟨⟨.move (.tmp 0), (some 85), none⟩, 0⟩,
  ⟨⟨.move (.tmp 11), (some 86), none⟩, 0⟩,
  ⟨⟨.move (.tmp 0), (some 87), none⟩, 0⟩,
  ⟨⟨.move (.tmp 11), (some 88), none⟩, 0⟩,
  ⟨⟨.bin .sub (.tmp 88) (.const (.int .i64 1)), (some 89), none⟩, 8⟩,
  ⟨⟨.move (.tmp 0), (some 90), none⟩, 0⟩,
  ⟨⟨.move (.tmp 11), (some 91), none⟩, 0⟩,
  ⟨⟨.bin .sub (.tmp 91) (.const (.int .i64 1)), (some 92), none⟩, 64⟩,
  ⟨⟨.addrSl 3 (.tmp 90) (.tmp 92), (some 93), none⟩, 224⟩,
  ⟨⟨.load (some 3) (.tmp 93), (some 94), none⟩, 480⟩,
  ⟨⟨.move (.tmp 0), (some 95), none⟩, 0⟩,
  ⟨⟨.move (.tmp 11), (some 96), none⟩, 0⟩,
  ⟨⟨.addrSl 3 (.tmp 95) (.tmp 96), (some 97), none⟩, 3072⟩,
  ⟨⟨.load (some 3) (.tmp 97), (some 98), none⟩, 7168⟩,
  ⟨⟨.addrSl 3 (.tmp 85) (.tmp 86), (some 99), none⟩, 16355⟩,
  ⟨⟨.store 3 (.tmp 99) (.tmp 94), none, none⟩, 32739⟩,
  ⟨⟨.addrSl 3 (.tmp 87) (.tmp 89), (some 100), none⟩, 65535⟩,
  ⟨⟨.store 3 (.tmp 100) (.tmp 98), none, none⟩, 131071⟩]
def o66_19 : List AOper := [⟨.move (.tmp 11), (some 70), none⟩,
  ⟨.bin .sub (.tmp 70) (.const (.int .i64 1)), (some 71), none⟩,
  ⟨.move (.tmp 71), (some 11), none⟩]
def b66_15 : ACode := (.seq (.seq (.ops o66_16) (.cond (.tmp 69) .skip (.exit 4))) (.seq (.block 5 (.seq (.seq (.draw d66_17) (.cond (.tmp 84) (.exit 4) .skip)) (.draw d66_18))) (.ops o66_19)))
def o66_20 : List AOper := [⟨.move (.tmp 2), (some 101), none⟩,
  ⟨.move (.tmp 9), (some 102), none⟩,
  ⟨.bin .sub (.tmp 101) (.tmp 102), (some 103), none⟩,
  ⟨.bin .geq (.tmp 103) (.const (.int .i64 2)), (some 104), none⟩]
def o66_21 : List AOper := [⟨.move (.tmp 9), (some 105), none⟩,
  ⟨.bin .add (.tmp 105) (.const (.int .i64 1)), (some 106), none⟩,
  ⟨.move (.tmp 106), (some 12), none⟩]
def o66_23 : List AOper := [⟨.move (.tmp 12), (some 107), none⟩,
  ⟨.move (.tmp 2), (some 108), none⟩,
  ⟨.bin .lss (.tmp 107) (.tmp 108), (some 109), none⟩]
def d66_24 : List DOper := [⟨⟨.move (.tmp 3), (some 112), none⟩, 0⟩,
  ⟨⟨.move (.tmp 0), (some 113), none⟩, 0⟩,
  ⟨⟨.move (.tmp 12), (some 114), none⟩, 0⟩,
  ⟨⟨.addrSl 3 (.tmp 113) (.tmp 114), (some 115), none⟩, 6⟩,
  ⟨⟨.load (some 3) (.tmp 115), (some 116), none⟩, 14⟩,
  ⟨⟨.move (.tmp 0), (some 117), none⟩, 0⟩,
  ⟨⟨.move (.tmp 12), (some 118), none⟩, 0⟩,
  ⟨⟨.bin .sub (.tmp 118) (.const (.int .i64 1)), (some 119), none⟩, 64⟩,
  ⟨⟨.addrSl 3 (.tmp 117) (.tmp 119), (some 120), none⟩, 224⟩,
  ⟨⟨.load (some 3) (.tmp 120), (some 121), none⟩, 480⟩,
  ⟨⟨.call (.tmp 112) [(.tmp 116), (.tmp 121)], (some 122), none⟩, 1023⟩,
  ⟨⟨.bin .lss (.tmp 122) (.const (.int .i64 0)), (some 123), none⟩, 2047⟩,
  ⟨⟨.un .not (.tmp 123), (some 124), none⟩, 4095⟩]
def d66_25 : List DOper := [⟨⟨.move (.tmp 0), (some 125), none⟩, 0⟩,
  ⟨⟨.move (.tmp 12), (some 126), none⟩, 0⟩,
  ⟨⟨.move (.tmp 0), (some 127), none⟩, 0⟩,
  ⟨⟨.move (.tmp 12), (some 128), none⟩, 0⟩,
  ⟨⟨.bin .sub (.tmp 128) (.const (.int .i64 1)), (some 129), none⟩, 8⟩,
  ⟨⟨.move (.tmp 0), (some 130), none⟩, 0⟩,
  ⟨⟨.move (.tmp 12), (some 131), none⟩, 0⟩,
  ⟨⟨.bin .sub (.tmp 131) (.const (.int .i64 1)), (some 132), none⟩, 64⟩,
  ⟨⟨.addrSl 3 (.tmp 130) (.tmp 132), (some 133), none⟩, 224⟩,
  ⟨⟨.load (some 3) (.tmp 133), (some 134), none⟩, 480⟩,
  ⟨⟨.move (.tmp 0), (some 135), none⟩, 0⟩,
  ⟨⟨.move (.tmp 12), (some 136), none⟩, 0⟩,
  ⟨⟨.addrSl 3 (.tmp 135) (.tmp 136), (some 137), none⟩, 3072⟩,
  ⟨⟨.load (some 3) (.tmp 137), (some 138), none⟩, 7168⟩,
  ⟨⟨.addrSl 3 (.tmp 125) (.tmp 126), (some 139), none⟩, 16355⟩,
  ⟨⟨.store 3 (.tmp 139) (.tmp 134), none, none⟩, 32739⟩,
  ⟨⟨.addrSl 3 (.tmp 127) (.tmp 129), (some 140), none⟩, 65535⟩,
  ⟨⟨.store 3 (.tmp 140) (.tmp 138), none, none⟩, 131071⟩]
def o66_26 : List AOper := [⟨.move (.tmp 12), (some 110), none⟩,
  ⟨.bin .add (.tmp 110) (.const (.int .i64 1)), (some 111), none⟩,
  ⟨.move (.tmp 111), (some 12), none⟩]
def b66_22 : ACode := (.seq (.seq (.ops o66_23) (.cond (.tmp 109) .skip (.exit 6))) (.seq (.block 7 (.seq (.seq (.draw d66_24) (.cond (.tmp 124) (.exit 6) .skip)) (.draw d66_25))) (.ops o66_26)))
def o66_27 : List AOper := [⟨.move (.tmp 10), (some 17), none⟩,
  ⟨.bin .add (.tmp 17) (.const (.int .i64 1)), (some 18), none⟩,
  ⟨.move (.tmp 18), (some 10), none⟩]
def b66_3 : ACode := (.seq (.seq (.ops o66_4) (.cond (.tmp 16) .skip (.exit 0))) (.seq (.block 1 (.seq (.block 2 (.loop b66_5)) (.seq (.seq (.ops o66_8) (.cond (.tmp 41) (.seq (.ops o66_9) .ret) .skip)) (.seq (.seq (.ops o66_10) (.cond (.tmp 45) (.seq (.ops o66_11) .ret) .skip)) (.seq (.draw d66_12) (.seq (.seq (.ops o66_13) (.cond (.tmp 65) (.seq (.ops o66_14) (.block 4 (.loop b66_15))) .skip)) (.seq (.ops o66_20) (.cond (.tmp 104) (.seq (.ops o66_21) (.block 6 (.loop b66_22))) .skip)))))))) (.ops o66_27)))
def o66_28 : List AOper := [⟨.move (.const (.bool false)), (some 8), none⟩]
def ir66 : AFn := ⟨141, [.tmp 8], (.seq (.ops o66_0) (.seq (.ops o66_1) (.seq (.seq (.ops o66_2) (.block 0 (.loop b66_3))) (.seq (.ops o66_28) .ret))))⟩
theorem ir66_eq : fnsOf Try.prog 66 = some ir66 := by kernel_rfl
def o67_0 : List AOper := [⟨.move (.const (.int .i64 0)), (some 10), none⟩]
def d67_1 : List DOper := [⟨⟨.move (.tmp 0), (some 13), none⟩, 0⟩,
  ⟨⟨.move (.tmp 1), (some 14), none⟩, 0⟩,
  ⟨⟨.move (.tmp 0), (some 15), none⟩, 0⟩,
  ⟨⟨.move (.tmp 3), (some 16), none⟩, 0⟩,
  ⟨⟨.move (.tmp 0), (some 17), none⟩, 0⟩,
  ⟨⟨.move (.tmp 3), (some 18), none⟩, 0⟩,
  ⟨⟨.addrSl 3 (.tmp 17) (.tmp 18), (some 19), none⟩, 48⟩,
  ⟨⟨.load (some 3) (.tmp 19), (some 20), none⟩, 112⟩,
  ⟨⟨.move (.tmp 0), (some 21), none⟩, 0⟩,
  ⟨⟨.move (.tmp 1), (some 22), none⟩, 0⟩,
  ⟨⟨.addrSl 3 (.tmp 21) (.tmp 22), (some 23), none⟩, 768⟩,
  ⟨⟨.load (some 3) (.tmp 23), (some 24), none⟩, 1792⟩,
  ⟨⟨.addrSl 3 (.tmp 13) (.tmp 14), (some 25), none⟩, 4083⟩,
  ⟨⟨.store 3 (.tmp 25) (.tmp 20), none, none⟩, 8179⟩,
  ⟨⟨.addrSl 3 (.tmp 15) (.tmp 16), (some 26), none⟩, 16383⟩,
  ⟨⟨.store 3 (.tmp 26) (.tmp 24), none, none⟩, 32767⟩]
def o67_2 : List AOper := [⟨.move (.tmp 1), (some 27), none⟩,
  ⟨.bin .add (.tmp 27) (.const (.int .i64 1)), (some 28), none⟩,
  ⟨.move (.tmp 2), (some 29), none⟩,
  ⟨.bin .sub (.tmp 29) (.const (.int .i64 1)), (some 30), none⟩,
  ⟨.move (.tmp 28), (some 11), none⟩,
  ⟨.move (.tmp 30), (some 12), none⟩]
def d67_5 : List DOper := [⟨⟨.move (.tmp 11), (some 31), none⟩, 0⟩,
  ⟨⟨.move (.tmp 12), (some 32), none⟩, 0⟩,
  ⟨⟨.bin .leq (.tmp 31) (.tmp 32), (some 33), none⟩, 3⟩,
  ⟨⟨.move (.tmp 33), (some 34), none⟩, 7⟩,
  ⟨⟨.move (.tmp 4), (some 35), (some (34, true))⟩, 15⟩,
  ⟨⟨.move (.tmp 0), (some 36), (some (34, true))⟩, 15⟩,
  ⟨⟨.move (.tmp 1), (some 37), (some (34, true))⟩, 15⟩,
  ⟨⟨.addrSl 3 (.tmp 36) (.tmp 37), (some 38), (some (34, true))⟩, 111⟩,
  ⟨⟨.load (some 3) (.tmp 38), (some 39), (some (34, true))⟩, 239⟩,
  ⟨⟨.move (.tmp 0), (some 40), (some (34, true))⟩, 15⟩,
  ⟨⟨.move (.tmp 11), (some 41), (some (34, true))⟩, 15⟩,
  ⟨⟨.addrSl 3 (.tmp 40) (.tmp 41), (some 42), (some (34, true))⟩, 1551⟩,
  ⟨⟨.load (some 3) (.tmp 42), (some 43), (some (34, true))⟩, 3599⟩,
  ⟨⟨.call (.tmp 35) [(.tmp 39), (.tmp 43)], (some 44), (some (34, true))⟩, 8191⟩,
  ⟨⟨.bin .lss (.tmp 44) (.const (.int .i64 0)), (some 45), (some (34, true))⟩, 16383⟩,
  ⟨⟨.un .not (.tmp 45), (some 46), (some (34, true))⟩, 32767⟩,
  ⟨⟨.pick (.tmp 34) (.tmp 46) (.const (.bool false)), (some 47), none⟩, 65535⟩]
def o67_6 : List AOper := [⟨.move (.tmp 11), (some 48), none⟩,
  ⟨.bin .add (.tmp 48) (.const (.int .i64 1)), (some 49), none⟩,
  ⟨.move (.tmp 49), (some 11), none⟩]
def b67_4 : ACode := (.seq (.seq (.draw d67_5) (.cond (.tmp 47) .skip (.exit 2))) (.block 3 (.ops o67_6)))
def d67_8 : List DOper := [⟨⟨.move (.tmp 11), (some 50), none⟩, 0⟩,
  ⟨⟨.move (.tmp 12), (some 51), none⟩, 0⟩,
  ⟨⟨.bin .leq (.tmp 50) (.tmp 51), (some 52), none⟩, 3⟩,
  ⟨⟨.move (.tmp 52), (some 53), none⟩, 7⟩,
  ⟨⟨.move (.tmp 4), (some 54), (some (53, true))⟩, 15⟩,
  ⟨⟨.move (.tmp 0), (some 55), (some (53, true))⟩, 15⟩,
  ⟨⟨.move (.tmp 1), (some 56), (some (53, true))⟩, 15⟩,
  ⟨⟨.addrSl 3 (.tmp 55) (.tmp 56), (some 57), (some (53, true))⟩, 111⟩,
  ⟨⟨.load (some 3) (.tmp 57), (some 58), (some (53, true))⟩, 239⟩,
  ⟨⟨.move (.tmp 0), (some 59), (some (53, true))⟩, 15⟩,
  ⟨⟨.move (.tmp 12), (some 60), (some (53, true))⟩, 15⟩,
  ⟨⟨.addrSl 3 (.tmp 59) (.tmp 60), (some 61), (some (53, true))⟩, 1551⟩,
  ⟨⟨.load (some 3) (.tmp 61), (some 62), (some (53, true))⟩, 3599⟩,
  ⟨⟨.call (.tmp 54) [(.tmp 58), (.tmp 62)], (some 63), (some (53, true))⟩, 8191⟩,
  ⟨⟨.bin .lss (.tmp 63) (.const (.int .i64 0)), (some 64), (some (53, true))⟩, 16383⟩,
  ⟨⟨.pick (.tmp 53) (.tmp 64) (.const (.bool false)), (some 65), none⟩, 32767⟩]
def o67_9 : List AOper := [⟨.move (.tmp 12), (some 66), none⟩,
  ⟨.bin .sub (.tmp 66) (.const (.int .i64 1)), (some 67), none⟩,
  ⟨.move (.tmp 67), (some 12), none⟩]
def b67_7 : ACode := (.seq (.seq (.draw d67_8) (.cond (.tmp 65) .skip (.exit 4))) (.block 5 (.ops o67_9)))
def o67_10 : List AOper := [⟨.move (.tmp 11), (some 68), none⟩,
  ⟨.move (.tmp 12), (some 69), none⟩,
  ⟨.bin .gtr (.tmp 68) (.tmp 69), (some 70), none⟩]
def d67_11 : List DOper := [⟨⟨.move (.tmp 0), (some 71), none⟩, 0⟩,
  ⟨⟨.move (.tmp 11), (some 72), none⟩, 0⟩,
  ⟨⟨.move (.tmp 0), (some 73), none⟩, 0⟩,
  ⟨⟨.move (.tmp 12), (some 74), none⟩, 0⟩,
  ⟨⟨.move (.tmp 0), (some 75), none⟩, 0⟩,
  ⟨⟨.move (.tmp 12), (some 76), none⟩, 0⟩,
  ⟨⟨.addrSl 3 (.tmp 75) (.tmp 76), (some 77), none⟩, 48⟩,
  ⟨⟨.load (some 3) (.tmp 77), (some 78), none⟩, 112⟩,
  ⟨⟨.move (.tmp 0), (some 79), none⟩, 0⟩,
  ⟨⟨.move (.tmp 11), (some 80), none⟩, 0⟩,
  ⟨⟨.addrSl 3 (.tmp 79) (.tmp 80), (some 81), none⟩, 768⟩,
  ⟨⟨.load (some 3) (.tmp 81), (some 82), none⟩, 1792⟩,
  ⟨⟨.addrSl 3 (.tmp 71) (.tmp 72), (some 83), none⟩, 4083⟩,
  ⟨⟨.store 3 (.tmp 83) (.tmp 78), none, none⟩, 8179⟩,
  ⟨⟨.addrSl 3 (.tmp 73) (.tmp 74), (some 84), none⟩, 16383⟩,
  ⟨⟨.store 3 (.tmp 84) (.tmp 82), none, none⟩, 32767⟩]
def o67_12 : List AOper := [⟨.move (.tmp 11), (some 85), none⟩,
  ⟨.bin .add (.tmp 85) (.const (.int .i64 1)), (some 86), none⟩,
  ⟨.move (.tmp 86), (some 11), none⟩]
def o67_13 : List AOper := [⟨.move (.tmp 12), (some 87), none⟩,
  ⟨.bin .sub (.tmp 87) (.const (.int .i64 1)), (some 88), none⟩,
  ⟨.move (.tmp 88), (some 12), none⟩]
def b67_3 : ACode := (.block 1 (.seq (.block 2 (.loop b67_4)) (.seq (.block 4 (.loop b67_7)) (.seq (.seq (.ops o67_10) (.cond (.tmp 70) (.exit 0) .skip)) (.seq (.draw d67_11) (.seq (.ops o67_12) (.ops o67_13)))))))
def o67_14 : List AOper := [⟨.move (.tmp 11), (some 89), none⟩,
  ⟨.move (.tmp 89), (some 10), none⟩]
def ir67 : AFn := ⟨90, [.tmp 10], (.seq (.ops o67_0) (.seq (.draw d67_1) (.seq (.ops o67_2) (.seq (.block 0 (.loop b67_3)) (.seq (.ops o67_14) .ret)))))⟩
theorem ir67_eq : fnsOf Try.prog 67 = some ir67 := by kernel_rfl
def o68_0 : List AOper := [⟨.move (.const (.int .i64 0)), (some 10), none⟩,
  ⟨.move (.const (.bool false)), (some 11), none⟩]
def d68_1 : List DOper := [⟨⟨.move (.tmp 0), (some 14), none⟩, 0⟩,
  ⟨⟨.move (.tmp 1), (some 15), none⟩, 0⟩,
  ⟨⟨.move (.tmp 0), (some 16), none⟩, 0⟩,
  ⟨⟨.move (.tmp 3), (some 17), none⟩, 0⟩,
  ⟨⟨.move (.tmp 0), (some 18), none⟩, 0⟩,
  ⟨⟨.move (.tmp 3), (some 19), none⟩, 0⟩,
  ⟨⟨.addrSl 3 (.tmp 18) (.tmp 19), (some 20), none⟩, 48⟩,
  ⟨⟨.load (some 3) (.tmp 20), (some 21), none⟩, 112⟩,
  ⟨⟨.move (.tmp 0), (some 22), none⟩, 0⟩,
  ⟨⟨.move (.tmp 1), (some 23), none⟩, 0⟩,
  ⟨⟨.addrSl 3 (.tmp 22) (.tmp 23), (some 24), none⟩, 768⟩,
  ⟨⟨.load (some 3) (.tmp 24), (some 25), none⟩, 1792⟩,
  ⟨⟨.addrSl 3 (.tmp 14) (.tmp 15), (some 26), none⟩, 4083⟩,
  ⟨⟨.store 3 (.tmp 26) (.tmp 21), none, none⟩, 8179⟩,
  ⟨⟨.addrSl 3 (.tmp 16) (.tmp 17), (some 27), none⟩, 16383⟩,
  ⟨⟨.store 3 (.tmp 27) (.tmp 25), none, none⟩, 32767⟩]
def o68_2 : List AOper := [⟨.move (.tmp 1), (some 28), none⟩,
  ⟨.bin .add (.tmp 28) (.const (.int .i64 1)), (some 29), none⟩,
  ⟨.move (.tmp 2), (some 30), none⟩,
  ⟨.bin .sub (.tmp 30) (.const (.int .i64 1)), (some 31), none⟩,
  ⟨.move (.tmp 29), (some 12), none⟩,
  ⟨.move (.tmp 31), (some 13), none⟩]
def d68_4 : List DOper := [⟨⟨.move (.tmp 12), (some 32), none⟩, 0⟩,
  ⟨⟨.move (.tmp 13), (some 33), none⟩, 0⟩,
  ⟨⟨.bin .leq (.tmp 32) (.tmp 33), (some 34), none⟩, 3⟩,
  ⟨⟨.move (.tmp 34), (some 35), none⟩, 7⟩,
  ⟨⟨.move (.tmp 4), (some 36), (some (35, true))⟩, 15⟩,
  ⟨⟨.move (.tmp 0), (some 37), (some (35, true))⟩, 15⟩,
  ⟨⟨.move (.tmp 12), (some 38), (some (35, true))⟩, 15⟩,
  ⟨⟨.addrSl 3 (.tmp 37) (.tmp 38), (some 39), (some (35, true))⟩, 111⟩,
  ⟨⟨.load (some 3) (.tmp 39), (some 40), (some (35, true))⟩, 239⟩,
  ⟨⟨.move (.tmp 0), (some 41), (some (35, true))⟩, 15⟩,
  ⟨⟨.move (.tmp 1), (some 42), (some (35, true))⟩, 15⟩,
  ⟨⟨.addrSl 3 (.tmp 41) (.tmp 42), (some 43), (some (35, true))⟩, 1551⟩,
  ⟨⟨.load (some 3) (.tmp 43), (some 44), (some (35, true))⟩, 3599⟩,
  ⟨⟨.call (.tmp 36) [(.tmp 40), (.tmp 44)], (some 45), (some (35, true))⟩, 8191⟩,
  ⟨⟨.bin .lss (.tmp 45) (.const (.int .i64 0)), (some 46), (some (35, true))⟩, 16383⟩,
  ⟨⟨.pick (.tmp 35) (.tmp 46) (.const (.bool false)), (some 47), none⟩, 32767⟩]
def o68_5 : List AOper := [⟨.move (.tmp 12), (some 48), none⟩,
  ⟨.bin .add (.tmp 48) (.const (.int .i64 1)), (some 49), none⟩,
  ⟨.move (.tmp 49), (some 12), none⟩]
def b68_3 : ACode := (.seq (.seq (.draw d68_4) (.cond (.tmp 47) .skip (.exit 0))) (.block 1 (.ops o68_5)))
def d68_7 : List DOper := [⟨⟨.move (.tmp 12), (some 50), none⟩, 0⟩,
  ⟨⟨.move (.tmp 13), (some 51), none⟩, 0⟩,
  ⟨⟨.bin .leq (.tmp 50) (.tmp 51), (some 52), none⟩, 3⟩,
  ⟨⟨.move (.tmp 52), (some 53), none⟩, 7⟩,
  ⟨⟨.move (.tmp 4), (some 54), (some (53, true))⟩, 15⟩,
  ⟨⟨.move (.tmp 0), (some 55), (some (53, true))⟩, 15⟩,
  ⟨⟨.move (.tmp 13), (some 56), (some (53, true))⟩, 15⟩,
  ⟨⟨.addrSl 3 (.tmp 55) (.tmp 56), (some 57), (some (53, true))⟩, 111⟩,
  ⟨⟨.load (some 3) (.tmp 57), (some 58), (some (53, true))⟩, 239⟩,
  ⟨⟨.move (.tmp 0), (some 59), (some (53, true))⟩, 15⟩,
  ⟨⟨.move (.tmp 1), (some 60), (some (53, true))⟩, 15⟩,
  ⟨⟨.addrSl 3 (.tmp 59) (.tmp 60), (some 61), (some (53, true))⟩, 1551⟩,
  ⟨⟨.load (some 3) (.tmp 61), (some 62), (some (53, true))⟩, 3599⟩,
  ⟨⟨.call (.tmp 54) [(.tmp 58), (.tmp 62)], (some 63), (some (53, true))⟩, 8191⟩,
  ⟨⟨.bin .lss (.tmp 63) (.const (.int .i64 0)), (some 64), (some (53, true))⟩, 16383⟩,
  ⟨⟨.un .not (.tmp 64), (some 65), (some (53, true))⟩, 32767⟩,
  ⟨⟨.pick (.tmp 53) (.tmp 65) (.const (.bool false)), (some 66), none⟩, 65535⟩]
def o68_8 : List AOper := [⟨.move (.tmp 13), (some 67), none⟩,
  ⟨.bin .sub (.tmp 67) (.const (.int .i64 1)), (some 68), none⟩,
  ⟨.move (.tmp 68), (some 13), none⟩]
def b68_6 : ACode := (.seq (.seq (.draw d68_7) (.cond (.tmp 66) .skip (.exit 2))) (.block 3 (.ops o68_8)))
def o68_9 : List AOper := [⟨.move (.tmp 12), (some 69), none⟩,
  ⟨.move (.tmp 13), (some 70), none⟩,
  ⟨.bin .gtr (.tmp 69) (.tmp 70), (some 71), none⟩]
def d68_10 : List DOper := [⟨⟨.move (.tmp 0), (some 72), none⟩, 0⟩,
  ⟨⟨.move (.tmp 13), (some 73), none⟩, 0⟩,
  ⟨⟨.move (.tmp 0), (some 74), none⟩, 0⟩,
  ⟨⟨.move (.tmp 1), (some 75), none⟩, 0⟩,
  ⟨⟨.move (.tmp 0), (some 76), none⟩, 0⟩,
  ⟨⟨.move (.tmp 1), (some 77), none⟩, 0⟩,
  ⟨⟨.addrSl 3 (.tmp 76) (.tmp 77), (some 78), none⟩, 48⟩,
  ⟨⟨.load (some 3) (.tmp 78), (some 79), none⟩, 112⟩,
  ⟨⟨.move (.tmp 0), (some 80), none⟩, 0⟩,
  ⟨⟨.move (.tmp 13), (some 81), none⟩, 0⟩,
  ⟨⟨.addrSl 3 (.tmp 80) (.tmp 81), (some 82), none⟩, 768⟩,
  ⟨⟨.load (some 3) (.tmp 82), (some 83), none⟩, 1792⟩,
  ⟨⟨.addrSl 3 (.tmp 72) (.tmp 73), (some 84), none⟩, 4083⟩,
  ⟨⟨.store 3 (.tmp 84) (.tmp 79), none, none⟩, 8179⟩,
  ⟨⟨.addrSl 3 (.tmp 74) (.tmp 75), (some 85), none⟩, 16383⟩,
  ⟨⟨.store 3 (.tmp 85) (.tmp 83), none, none⟩, 32767⟩]
def o68_11 : List AOper := [⟨.move (.tmp 13), (some 86), none⟩,
  ⟨.move (.tmp 86), (some 10), none⟩,
  ⟨.move (.const (.bool true)), (some 11), none⟩]
def d68_12 : List DOper := [⟨⟨.move (.tmp 0), (some 87), none⟩, 0⟩,
  ⟨⟨.move (.tmp 12), (some 88), none⟩, 0⟩,
  ⟨⟨.move (.tmp 0), (some 89), none⟩, 0⟩,
  ⟨⟨.move (.tmp 13), (some 90), none⟩, 0⟩,
  ⟨⟨.move (.tmp 0), (some 91), none⟩, 0⟩,
  ⟨⟨.move (.tmp 13), (some 92), none⟩, 0⟩,
  ⟨⟨.addrSl 3 (.tmp 91) (.tmp 92), (some 93), none⟩, 48⟩,
  ⟨⟨.load (some 3) (.tmp 93), (some 94), none⟩, 112⟩,
  ⟨⟨.move (.tmp 0), (some 95), none⟩, 0⟩,
  ⟨⟨.move (.tmp 12), (some 96), none⟩, 0⟩,
  ⟨⟨.addrSl 3 (.tmp 95) (.tmp 96), (some 97), none⟩, 768⟩,
  ⟨⟨.load (some 3) (.tmp 97), (some 98), none⟩, 1792⟩,
  ⟨⟨.addrSl 3 (.tmp 87) (.tmp 88), (some 99), none⟩, 4083⟩,
  ⟨⟨.store 3 (.tmp 99) (.tmp 94), none, none⟩, 8179⟩,
  ⟨⟨.addrSl 3 (.tmp 89) (.tmp 90), (some 100), none⟩, 16383⟩,
  ⟨⟨.store 3 (.tmp 100) (.tmp 98), none, none⟩, 32767⟩]
def o68_13 : List AOper := [⟨.move (.tmp 12), (some 101), none⟩,
  ⟨.bin .add (.tmp 101) (.const (.int .i64 1)), (some 102), none⟩,
  ⟨.move (.tmp 102), (some 12), none⟩]
def o68_14 : List AOper := [⟨.move (.tmp 13), (some 103), none⟩,
  ⟨.bin .sub (.tmp 103) (.const (.int .i64 1)), (some 104), none⟩,
  ⟨.move (.tmp 104), (some 13), none⟩]
def d68_17 : List DOper := [⟨⟨.move (.tmp 12), (some 105), none⟩, 0⟩,
  ⟨⟨.move (.tmp 13), (some 106), none⟩, 0⟩,
  ⟨⟨.bin .leq (.tmp 105) (.tmp 106), (some 107), none⟩, 3⟩,
  ⟨⟨.move (.tmp 107), (some 108), none⟩, 7⟩,
  ⟨⟨.move (.tmp 4), (some 109), (some (108, true))⟩, 15⟩,
  ⟨⟨.move (.tmp 0), (some 110), (some (108, true))⟩, 15⟩,
  ⟨⟨.move (.tmp 12), (some 111), (some (108, true))⟩, 15⟩,
  ⟨⟨.addrSl 3 (.tmp 110) (.tmp 111), (some 112), (some (108, true))⟩, 111⟩,
  ⟨⟨.load (some 3) (.tmp 112), (some 113), (some (108, true))⟩, 239⟩,
  ⟨⟨.move (.tmp 0), (some 114), (some (108, true))⟩, 15⟩,
  ⟨⟨.move (.tmp 1), (some 115), (some (108, true))⟩, 15⟩,
  ⟨⟨.addrSl 3 (.tmp 114) (.tmp 115), (some 116), (some (108, true))⟩, 1551⟩,
  ⟨⟨.load (some 3) (.tmp 116), (some 117), (some (108, true))⟩, 3599⟩,
  ⟨⟨.call (.tmp 109) [(.tmp 113), (.tmp 117)], (some 118), (some (108, true))⟩, 8191⟩,
  ⟨⟨.bin .lss (.tmp 118) (.const (.int .i64 0)), (some 119), (some (108, true))⟩, 16383⟩,
  ⟨⟨.pick (.tmp 108) (.tmp 119) (.const (.bool false)), (some 120), none⟩, 32767⟩]
def o68_18 : List AOper := [⟨.move (.tmp 12), (some 121), none⟩,
  ⟨.bin .add (.tmp 121) (.const (.int .i64 1)), (some 122), none⟩,
  ⟨.move (.tmp 122), (some 12), none⟩]
def b68_16 : ACode := (.seq (.seq (.draw d68_17) (.cond (.tmp 120) .skip (.exit 6))) (.block 7 (.ops o68_18)))
def d68_20 : List DOper := [⟨⟨.move (.tmp 12), (some 123), none⟩, 0⟩,
  ⟨⟨.move (.tmp 13), (some 124), none⟩, 0⟩,
  ⟨⟨.bin .leq (.tmp 123) (.tmp 124), (some 125), none⟩, 3⟩,
  ⟨⟨.move (.tmp 125), (some 126), none⟩, 7⟩,
  ⟨⟨.move (.tmp 4), (some 127), (some (126, true))⟩, 15⟩,
  ⟨⟨.move (.tmp 0), (some 128), (some (126, true))⟩, 15⟩,
  ⟨⟨.move (.tmp 13), (some 129), (some (126, true))⟩, 15⟩,
  ⟨⟨.addrSl 3 (.tmp 128) (.tmp 129), (some 130), (some (126, true))⟩, 111⟩,
  ⟨⟨.load (some 3) (.tmp 130), (some 131), (some (126, true))⟩, 239⟩,
  ⟨⟨.move (.tmp 0), (some 132), (some (126, true))⟩, 15⟩,
  ⟨⟨.move (.tmp 1), (some 133), (some (126, true))⟩, 15⟩,
  ⟨⟨.addrSl 3 (.tmp 132) (.tmp 133), (some 134), (some (126, true))⟩, 1551⟩,
  ⟨⟨.load (some 3) (.tmp 134), (some 135), (some (126, true))⟩, 3599⟩,
  ⟨⟨.call (.tmp 127) [(.tmp 131), (.tmp 135)], (some 136), (some (126, true))⟩, 8191⟩,
  ⟨⟨.bin .lss (.tmp 136) (.const (.int .i64 0)), (some 137), (some (126, true))⟩, 16383⟩,
  ⟨⟨.un .not (.tmp 137), (some 138), (some (126, true))⟩, 32767⟩,
  ⟨⟨.pick (.tmp 126) (.tmp 138) (.const (.bool false)), (some 139), none⟩, 65535⟩]
def o68_21 : List AOper := [⟨.move (.tmp 13), (some 140), none⟩,
  ⟨.bin .sub (.tmp 140) (.const (.int .i64 1)), (some 141), none⟩,
  ⟨.move (.tmp 141), (some 13), none⟩]
def b68_19 : ACode := (.seq (.seq (.draw d68_20) (.cond (.tmp 139) .skip (.exit 8))) (.block 9 (.ops o68_21)))
def o68_22 : List AOper := [⟨.move (.tmp 12), (some 142), none⟩,
  ⟨.move (.tmp 13), (some 143), none⟩,
  ⟨.bin .gtr (.tmp 142) (.tmp 143), (some 144), none⟩]
def d68_23 : List DOper := [⟨⟨.move (.tmp 0), (some 145), none⟩, 0⟩,
  ⟨⟨.move (.tmp 12), (some 146), none⟩, 0⟩,
  ⟨⟨.move (.tmp 0), (some 147), none⟩, 0⟩,
  ⟨⟨.move (.tmp 13), (some 148), none⟩, 0⟩,
  ⟨⟨.move (.tmp 0), (some 149), none⟩, 0⟩,
  ⟨⟨.move (.tmp 13), (some 150), none⟩, 0⟩,
  ⟨⟨.addrSl 3 (.tmp 149) (.tmp 150), (some 151), none⟩, 48⟩,
  ⟨⟨.load (some 3) (.tmp 151), (some 152), none⟩, 112⟩,
  ⟨⟨.move (.tmp 0), (some 153), none⟩, 0⟩,
  ⟨⟨.move (.tmp 12), (some 154), none⟩, 0⟩,
  ⟨⟨.addrSl 3 (.tmp 153) (.tmp 154), (some 155), none⟩, 768⟩,
  ⟨⟨.load (some 3) (.tmp 155), (some 156), none⟩, 1792⟩,
  ⟨⟨.addrSl 3 (.tmp 145) (.tmp 146), (some 157), none⟩, 4083⟩,
  ⟨⟨.store 3 (.tmp 157) (.tmp 152), none, none⟩, 8179⟩,
  ⟨⟨.addrSl 3 (.tmp 147) (.tmp 148), (some 158), none⟩, 16383⟩,
  ⟨⟨.store 3 (.tmp 158) (.tmp 156), none, none⟩, 32767⟩]
def o68_24 : List AOper := [⟨.move (.tmp 12), (some 159), none⟩,
  ⟨.bin .add (.tmp 159) (.const (.int .i64 1)), (some 160), none⟩,
  ⟨.move (.tmp 160), (some 12), none⟩]
def o68_25 : List AOper := [⟨.move (.tmp 13), (some 161), none⟩,
  ⟨.bin .sub (.tmp 161) (.const (.int .i64 1)), (some 162), none⟩,
  ⟨.move (.tmp 162), (some 13), none⟩]
def b68_15 : ACode := (.block 5 (.seq (.block 6 (.loop b68_16)) (.seq (.block 8 (.loop b68_19)) (.seq (.seq (.ops o68_22) (.cond (.tmp 144) (.exit 4) .skip)) (.seq (.draw d68_23) (.seq (.ops o68_24) (.ops o68_25)))))))
def d68_26 : List DOper := [⟨⟨.move (.tmp 0), (some 163), none⟩, 0⟩,
  ⟨⟨.move (.tmp 13), (some 164), none⟩, 0⟩,
  ⟨⟨.move (.tmp 0), (some 165), none⟩, 0⟩,
  ⟨⟨.move (.tmp 1), (some 166), none⟩, 0⟩,
  ⟨⟨.move (.tmp 0), (some 167), none⟩, 0⟩,
  ⟨⟨.move (.tmp 1), (some 168), none⟩, 0⟩,
  ⟨⟨.addrSl 3 (.tmp 167) (.tmp 168), (some 169), none⟩, 48⟩,
  ⟨⟨.load (some 3) (.tmp 169), (some 170), none⟩, 112⟩,
  ⟨⟨.move (.tmp 0), (some 171), none⟩, 0⟩,
  ⟨⟨.move (.tmp 13), (some 172), none⟩, 0⟩,
  ⟨⟨.addrSl 3 (.tmp 171) (.tmp 172), (some 173), none⟩, 768⟩,
  ⟨⟨.load (some 3) (.tmp 173), (some 174), none⟩, 1792⟩,
  ⟨⟨.addrSl 3 (.tmp 163) (.tmp 164), (some 175), none⟩, 4083⟩,
  ⟨⟨.store 3 (.tmp 175) (.tmp 170), none, none⟩, 8179⟩,
  ⟨⟨.addrSl 3 (.tmp 165) (.tmp 166), (some 176), none⟩, 16383⟩,
  ⟨⟨.store 3 (.tmp 176) (.tmp 174), none, none⟩, 32767⟩]
def o68_27 : List AOper := [⟨.move (.tmp 13), (some 177), none⟩,
  ⟨.move (.tmp 177), (some 10), none⟩,
  ⟨.move (.const (.bool false)), (some 11), none⟩]
def ir68 : AFn := ⟨178, [.tmp 10, .tmp 11], (.seq (.ops o68_0) (.seq (.draw d68_1) (.seq (.ops o68_2) (.seq (.block 0 (.loop b68_3)) (.seq (.block 2 (.loop b68_6)) (.seq (.seq (.ops o68_9) (.cond (.tmp 71) (.seq (.draw d68_10) (.seq (.ops o68_11) .ret)) .skip)) (.seq (.draw d68_12) (.seq (.ops o68_13) (.seq (.ops o68_14) (.seq (.block 4 (.loop b68_15)) (.seq (.draw d68_26) (.seq (.ops o68_27) .ret))))))))))))⟩
theorem ir68_eq : fnsOf Try.prog 68 = some ir68 := by kernel_rfl
def o79_0 : List AOper := [⟨.move (.tmp 1), (some 12), none⟩,
  ⟨.move (.tmp 12), (some 10), none⟩]
def o79_2 : List AOper := [⟨.move (.tmp 10), (some 13), none⟩,
  ⟨.bin .mul (.const (.int .i64 2)) (.tmp 13), (some 14), none⟩,
  ⟨.bin .add (.tmp 14) (.const (.int .i64 1)), (some 15), none⟩,
  ⟨.move (.tmp 15), (some 11), none⟩]
def o79_3 : List AOper := [⟨.move (.tmp 11), (some 16), none⟩,
  ⟨.move (.tmp 2), (some 17), none⟩,
  ⟨.bin .geq (.tmp 16) (.tmp 17), (some 18), none⟩]
def d79_4 : List DOper := [⟨⟨.move (.tmp 11), (some 19), none⟩, 0⟩,
  ⟨⟨.bin .add (.tmp 19) (.const (.int .i64 1)), (some 20), none⟩, 1⟩,
  ⟨⟨.move (.tmp 2), (some 21), none⟩, 0⟩,
  ⟨⟨.bin .lss (.tmp 20) (.tmp 21), (some 22), none⟩, 7⟩,
  ⟨⟨.move (.tmp 22), (some 23), none⟩, 15⟩,
  ⟨⟨.move (.tmp 4), (some 24), (some (23, true))⟩, 31⟩,
  ⟨⟨.move (.tmp 0), (some 25), (some (23, true))⟩, 31⟩,
  ⟨⟨.move (.tmp 3), (some 26), (some (23, true))⟩, 31⟩,
  ⟨⟨.move (.tmp 11), (some 27), (some (23, true))⟩, 31⟩,
  ⟨⟨.bin .add (.tmp 26) (.tmp 27), (some 28), (some (23, true))⟩, 415⟩,
  ⟨⟨.addrSl 3 (.tmp 25) (.tmp 28), (some 29), (some (23, true))⟩, 991⟩,
  ⟨⟨.load (some 3) (.tmp 29), (some 30), (some (23, true))⟩, 2015⟩,
  ⟨⟨.move (.tmp 0), (some 31), (some (23, true))⟩, 31⟩,
  ⟨⟨.move (.tmp 3), (some 32), (some (23, true))⟩, 31⟩,
  ⟨⟨.move (.tmp 11), (some 33), (some (23, true))⟩, 31⟩,
  ⟨⟨.bin .add (.tmp 32) (.tmp 33), (some 34), (some (23, true))⟩, 24607⟩,
  ⟨⟨.bin .add (.tmp 34) (.const (.int .i64 1)), (some 35), (some (23, true))⟩, 57375⟩,
  ⟨⟨.addrSl 3 (.tmp 31) (.tmp 35), (some 36), (some (23, true))⟩, 127007⟩,
  ⟨⟨.load (some 3) (.tmp 36), (some 37), (some (23, true))⟩, 258079⟩,
  ⟨⟨.call (.tmp 24) [(.tmp 30), (.tmp 37)], (some 38), (some (23, true))⟩, 524287⟩,
  ⟨⟨.bin .lss (.tmp 38) (.const (.int .i64 0)), (some 39), (some (23, true))⟩, 1048575⟩,
  ⟨⟨.pick (.tmp 23) (.tmp 39) (.const (.bool false)), (some 40), none⟩, 2097151⟩]
def o79_5 : List AOper := [⟨.move (.tmp 11), (some 41), none⟩,
  ⟨.bin .add (.tmp 41) (.const (.int .i64 1)), (some 42), none⟩,
  ⟨.move (.tmp 42), (some 11), none⟩]
def d79_6 : List DOper := [⟨⟨.move (.tmp 4), (some 43), none⟩, 0⟩,
  ⟨⟨.move (.tmp 0), (some 44), none⟩, 0⟩,
  ⟨⟨.move (.tmp 3), (some 45), none⟩, 0⟩,
  ⟨⟨.move (.tmp 10), (some 46), none⟩, 0⟩,
  ⟨⟨.bin .add (.tmp 45) (.tmp 46), (some 47), none⟩, 12⟩,
  ⟨⟨.addrSl 3 (.tmp 44) (.tmp 47), (some 48), none⟩, 30⟩,
  ⟨⟨.load (some 3) (.tmp 48), (some 49), none⟩, 62⟩,
  ⟨⟨.move (.tmp 0), (some 50), none⟩, 0⟩,
  ⟨⟨.move (.tmp 3), (some 51), none⟩, 0⟩,
  ⟨⟨.move (.tmp 11), (some 52), none⟩, 0⟩,
  ⟨⟨.bin .add (.tmp 51) (.tmp 52), (some 53), none⟩, 768⟩,
  ⟨⟨.addrSl 3 (.tmp 50) (.tmp 53), (some 54), none⟩, 1920⟩,
  ⟨⟨.load (some 3) (.tmp 54), (some 55), none⟩, 3968⟩,
  ⟨⟨.call (.tmp 43) [(.tmp 49), (.tmp 55)], (some 56), none⟩, 8191⟩,
  ⟨⟨.bin .lss (.tmp 56) (.const (.int .i64 0)), (some 57), none⟩, 16383⟩,
  ⟨⟨.un .not (.tmp 57), (some 58), none⟩, 32767⟩]
def d79_7 : List DOper := [⟨⟨.move (.tmp 0), (some 59), none⟩, 0⟩,
  ⟨⟨.move (.tmp 3), (some 60), none⟩, 0⟩,
  ⟨⟨.move (.tmp 10), (some 61), none⟩, 0⟩,
  ⟨⟨.bin .add (.tmp 60) (.tmp 61), (some 62), none⟩, 6⟩,
  ⟨⟨.move (.tmp 0), (some 63), none⟩, 0⟩,
  ⟨⟨.move (.tmp 3), (some 64), none⟩, 0⟩,
  ⟨⟨.move (.tmp 11), (some 65), none⟩, 0⟩,
  ⟨⟨.bin .add (.tmp 64) (.tmp 65), (some 66), none⟩, 96⟩,
  ⟨⟨.move (.tmp 0), (some 67), none⟩, 0⟩,
  ⟨⟨.move (.tmp 3), (some 68), none⟩, 0⟩,
  ⟨⟨.move (.tmp 11), (some 69), none⟩, 0⟩,
  ⟨⟨.bin .add (.tmp 68) (.tmp 69), (some 70), none⟩, 1536⟩,
  ⟨⟨.addrSl 3 (.tmp 67) (.tmp 70), (some 71), none⟩, 3840⟩,
  ⟨⟨.load (some 3) (.tmp 71), (some 72), none⟩, 7936⟩,
  ⟨⟨.move (.tmp 0), (some 73), none⟩, 0⟩,
  ⟨⟨.move (.tmp 3), (some 74), none⟩, 0⟩,
  ⟨⟨.move (.tmp 10), (some 75), none⟩, 0⟩,
  ⟨⟨.bin .add (.tmp 74) (.tmp 75), (some 76), none⟩, 98304⟩,
  ⟨⟨.addrSl 3 (.tmp 73) (.tmp 76), (some 77), none⟩, 245760⟩,
  ⟨⟨.load (some 3) (.tmp 77), (some 78), none⟩, 507904⟩,
  ⟨⟨.addrSl 3 (.tmp 59) (.tmp 62), (some 79), none⟩, 1048335⟩,
  ⟨⟨.store 3 (.tmp 79) (.tmp 72), none, none⟩, 2096911⟩,
  ⟨⟨.addrSl 3 (.tmp 63) (.tmp 66), (some 80), none⟩, 4194303⟩,
  ⟨⟨.store 3 (.tmp 80) (.tmp 78), none, none⟩, 8388607⟩]
def o79_8 : List AOper := [⟨.move (.tmp 11), (some 81), none⟩,
  ⟨.move (.tmp 81), (some 10), none⟩]
def b79_1 : ACode := (.block 1 (.seq (.ops o79_2) (.seq (.seq (.ops o79_3) (.cond (.tmp 18) (.exit 0) .skip)) (.seq (.seq (.draw d79_4) (.cond (.tmp 40) (.ops o79_5) .skip)) (.seq (.seq (.draw d79_6) (.cond (.tmp 58) .ret .skip)) (.seq (.draw d79_7) (.ops o79_8)))))))
def ir79 : AFn := ⟨82, [], (.seq (.ops o79_0) (.block 0 (.loop b79_1)))⟩
theorem ir79_eq : fnsOf Try.prog 79 = some ir79 := by kernel_rfl
def o82_0 : List AOper := [⟨.move (.const (.int .i64 0)), (some 8), none⟩]
def o82_1 : List AOper := [⟨.move (.tmp 0), (some 9), none⟩,
  ⟨.move (.tmp 1), (some 10), none⟩,
  ⟨.bin .sub (.tmp 10) (.const (.int .i64 1)), (some 11), none⟩,
  ⟨.move (.tmp 1), (some 12), none⟩,
  ⟨.move (.tmp 1), (some 13), none⟩,
  ⟨.bin .add (.tmp 13) (.const (.int .i64 1)), (some 14), none⟩,
  ⟨.move (.tmp 2), (some 15), none⟩,
  ⟨.move (.tmp 3), (some 16), none⟩,
  ⟨.call (.func 83) [(.tmp 9), (.tmp 11), (.tmp 12), (.tmp 14), (.tmp 15), (.tmp 16)], (some 17), none⟩,
  ⟨.move (.tmp 17), (some 8), none⟩]
def ir82 : AFn := ⟨18, [.tmp 8], (.seq (.ops o82_0) (.seq (.ops o82_1) .ret))⟩
theorem ir82_eq : fnsOf Try.prog 82 = some ir82 := by kernel_rfl
def o83_0 : List AOper := [⟨.move (.const (.int .i64 0)), (some 12), none⟩]
def o83_1 : List AOper := [⟨.move (.tmp 0), (some 14), none⟩,
  ⟨.move (.tmp 1), (some 15), none⟩,
  ⟨.move (.tmp 2), (some 16), none⟩,
  ⟨.move (.tmp 4), (some 17), none⟩,
  ⟨.move (.tmp 5), (some 18), none⟩,
  ⟨.call (.func 87) [(.tmp 14), (.tmp 15), (.tmp 16), (.tmp 17), (.tmp 18)], (some 19), none⟩,
  ⟨.move (.tmp 19), (some 13), none⟩,
  ⟨.extract (.tmp 13) 0, (some 20), none⟩,
  ⟨.extract (.tmp 13) 1, (some 21), none⟩,
  ⟨.move (.tmp 20), (some 1), none⟩,
  ⟨.move (.tmp 21), (some 2), none⟩]
def o83_2 : List AOper := [⟨.move (.tmp 0), (some 23), none⟩,
  ⟨.move (.tmp 2), (some 24), none⟩,
  ⟨.move (.tmp 3), (some 25), none⟩,
  ⟨.move (.tmp 4), (some 26), none⟩,
  ⟨.move (.tmp 5), (some 27), none⟩,
  ⟨.call (.func 87) [(.tmp 23), (.tmp 24), (.tmp 25), (.tmp 26), (.tmp 27)], (some 28), none⟩,
  ⟨.move (.tmp 28), (some 22), none⟩,
  ⟨.extract (.tmp 22) 0, (some 29), none⟩,
  ⟨.extract (.tmp 22) 1, (some 30), none⟩,
  ⟨.move (.tmp 29), (some 2), none⟩,
  ⟨.move (.tmp 30), (some 3), none⟩]
def o83_3 : List AOper := [⟨.move (.tmp 0), (some 32), none⟩,
  ⟨.move (.tmp 1), (some 33), none⟩,
  ⟨.move (.tmp 2), (some 34), none⟩,
  ⟨.move (.tmp 4), (some 35), none⟩,
  ⟨.move (.tmp 5), (some 36), none⟩,
  ⟨.call (.func 87) [(.tmp 32), (.tmp 33), (.tmp 34), (.tmp 35), (.tmp 36)], (some 37), none⟩,
  ⟨.move (.tmp 37), (some 31), none⟩,
  ⟨.extract (.tmp 31) 0, (some 38), none⟩,
  ⟨.extract (.tmp 31) 1, (some 39), none⟩,
  ⟨.move (.tmp 38), (some 1), none⟩,
  ⟨.move (.tmp 39), (some 2), none⟩]
def o83_4 : List AOper := [⟨.move (.tmp 2), (some 40), none⟩,
  ⟨.move (.tmp 40), (some 12), none⟩]
def ir83 : AFn := ⟨41, [.tmp 12], (.seq (.ops o83_0) (.seq (.ops o83_1) (.seq (.ops o83_2) (.seq (.ops o83_3) (.seq (.ops o83_4) .ret)))))⟩
theorem ir83_eq : fnsOf Try.prog 83 = some ir83 := by kernel_rfl
def o87_0 : List AOper := [⟨.move (.const (.int .i64 0)), (some 10), none⟩,
  ⟨.move (.const (.int .i64 0)), (some 11), none⟩]
def d87_1 : List DOper := [⟨⟨.move (.tmp 4), (some 12), none⟩, 0⟩,
  ⟨⟨.move (.tmp 0), (some 13), none⟩, 0⟩,
  ⟨⟨.move (.tmp 2), (some 14), none⟩, 0⟩,
  ⟨⟨.addrSl 3 (.tmp 13) (.tmp 14), (some 15), none⟩, 6⟩,
  ⟨⟨.load (some 3) (.tmp 15), (some 16), none⟩, 14⟩,
  ⟨⟨.move (.tmp 0), (some 17), none⟩, 0⟩,
  ⟨⟨.move (.tmp 1), (some 18), none⟩, 0⟩,
  ⟨⟨.addrSl 3 (.tmp 17) (.tmp 18), (some 19), none⟩, 96⟩,
  ⟨⟨.load (some 3) (.tmp 19), (some 20), none⟩, 224⟩,
  ⟨⟨.call (.tmp 12) [(.tmp 16), (.tmp 20)], (some 21), none⟩, 511⟩,
  ⟨⟨.bin .lss (.tmp 21) (.const (.int .i64 0)), (some 22), none⟩, 1023⟩]
def o87_2 : List AOper := [⟨.move (.tmp 3), (some 23), none⟩,
  ⟨.nilCheck (.tmp 23), (some 24), none⟩,
  ⟨.load none (.tmp 24), (some 25), none⟩,
  ⟨.bin .add (.tmp 25) (.const (.int .i64 1)), (some 26), none⟩,
  ⟨.nilCheck (.tmp 23), (some 27), none⟩,
  ⟨.store 1 (.tmp 27) (.tmp 26), none, none⟩]
def o87_3 : List AOper := [⟨.move (.tmp 2), (some 28), none⟩,
  ⟨.move (.tmp 1), (some 29), none⟩,
  ⟨.move (.tmp 28), (some 10), none⟩,
  ⟨.move (.tmp 29), (some 11), none⟩]
def o87_4 : List AOper := [⟨.move (.tmp 1), (some 30), none⟩,
  ⟨.move (.tmp 2), (some 31), none⟩,
  ⟨.move (.tmp 30), (some 10), none⟩,
  ⟨.move (.tmp 31), (some 11), none⟩]
def ir87 : AFn := ⟨32, [.tmp 10, .tmp 11], (.seq (.ops o87_0) (.seq (.seq (.draw d87_1) (.cond (.tmp 22) (.seq (.ops o87_2) (.seq (.ops o87_3) .ret)) .skip)) (.seq (.ops o87_4) .ret)))⟩
theorem ir87_eq : fnsOf Try.prog 87 = some ir87 := by kernel_rfl
end Go.Proofs.Ytpphomoijlilfaa
