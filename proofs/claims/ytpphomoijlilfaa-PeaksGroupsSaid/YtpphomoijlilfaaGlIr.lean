/- The small machine's text of functions of the seat. -/
import Derived.Test.YtpphomoijlilfaaRows
import Derived.Test.YtpphomoijlilfaaVam25
import Derived.KernelRfl
namespace Go.Proofs.Ytpphomoijlilfaa
open Go Go.Vam
def o39_0 : List AOper := [⟨.move (.tmp 0), (some 5), none⟩,
  ⟨.bu .len [(.tmp 5)], (some 6), none⟩,
  ⟨.move (.tmp 6), (some 4), none⟩]
def o39_1 : List AOper := [⟨.move (.tmp 0), (some 7), none⟩,
  ⟨.move (.tmp 4), (some 8), none⟩,
  ⟨.move (.tmp 4), (some 9), none⟩,
  ⟨.conv (.toInt .u64) (.tmp 9), (some 10), none⟩,
  ⟨.call (.func 55) [(.tmp 10)], (some 11), none⟩,
  ⟨.move (.tmp 1), (some 12), none⟩,
  ⟨.call (.func 56) [(.tmp 7), (.const (.int .i64 0)), (.tmp 8), (.tmp 11), (.tmp 12)], (some 13), none⟩]
def ir39 : AFn := ⟨14, [], (.seq (.ops o39_0) (.ops o39_1))⟩
theorem ir39_eq : fnsOf Try.prog 39 = some ir39 := by kernel_rfl
def o40_0 : List AOper := [⟨.move (.const (.int .i64 0)), (some 4), none⟩]
def d40_1 : List DOper := [⟨⟨.move (.tmp 0), (some 5), none⟩, 0⟩,
  ⟨⟨.addrSl 3 (.tmp 5) (.const (.int .i64 0)), (some 6), none⟩, 1⟩,
  ⟨⟨.load (some 3) (.tmp 6), (some 7), none⟩, 3⟩,
  ⟨⟨.move (.tmp 1), (some 8), none⟩, 0⟩,
  ⟨⟨.addrSl 3 (.tmp 8) (.const (.int .i64 0)), (some 9), none⟩, 8⟩,
  ⟨⟨.load (some 3) (.tmp 9), (some 10), none⟩, 24⟩,
  ⟨⟨.call (.func 38) [(.tmp 7), (.tmp 10)], (some 11), none⟩, 63⟩,
  ⟨⟨.move (.tmp 11), (some 4), none⟩, 127⟩]
def ir40 : AFn := ⟨12, [.tmp 4], (.seq (.ops o40_0) (.seq (.draw d40_1) .ret))⟩
theorem ir40_eq : fnsOf Try.prog 40 = some ir40 := by kernel_rfl
def o56_0 : List AOper := [⟨.move (.const (.bool true)), (some 10), none⟩]
def o56_1 : List AOper := [⟨.move (.const (.bool true)), (some 11), none⟩]
def o56_3 : List AOper := [⟨.move (.tmp 2), (some 21), none⟩,
  ⟨.move (.tmp 1), (some 22), none⟩,
  ⟨.bin .sub (.tmp 21) (.tmp 22), (some 23), none⟩,
  ⟨.move (.tmp 23), (some 12), none⟩]
def o56_4 : List AOper := [⟨.move (.tmp 12), (some 24), none⟩,
  ⟨.bin .leq (.tmp 24) (.const (.int .i64 12)), (some 25), none⟩]
def o56_5 : List AOper := [⟨.move (.tmp 0), (some 26), none⟩,
  ⟨.move (.tmp 1), (some 27), none⟩,
  ⟨.move (.tmp 2), (some 28), none⟩,
  ⟨.move (.tmp 4), (some 29), none⟩,
  ⟨.call (.func 71) [(.tmp 26), (.tmp 27), (.tmp 28), (.tmp 29)], (some 30), none⟩]
def o56_6 : List AOper := [⟨.move (.tmp 3), (some 31), none⟩,
  ⟨.bin .eql (.tmp 31) (.const (.int .i64 0)), (some 32), none⟩]
def o56_7 : List AOper := [⟨.move (.tmp 0), (some 33), none⟩,
  ⟨.move (.tmp 1), (some 34), none⟩,
  ⟨.move (.tmp 2), (some 35), none⟩,
  ⟨.move (.tmp 4), (some 36), none⟩,
  ⟨.call (.func 72) [(.tmp 33), (.tmp 34), (.tmp 35), (.tmp 36)], (some 37), none⟩]
def o56_8 : List AOper := [⟨.move (.tmp 10), (some 38), none⟩,
  ⟨.un .not (.tmp 38), (some 39), none⟩]
def o56_9 : List AOper := [⟨.move (.tmp 0), (some 40), none⟩,
  ⟨.move (.tmp 1), (some 41), none⟩,
  ⟨.move (.tmp 2), (some 42), none⟩,
  ⟨.move (.tmp 4), (some 43), none⟩,
  ⟨.call (.func 73) [(.tmp 40), (.tmp 41), (.tmp 42), (.tmp 43)], (some 44), none⟩]
def o56_10 : List AOper := [⟨.move (.tmp 3), (some 45), none⟩,
  ⟨.bin .sub (.tmp 45) (.const (.int .i64 1)), (some 46), none⟩,
  ⟨.move (.tmp 46), (some 3), none⟩]
def o56_11 : List AOper := [⟨.move (.tmp 0), (some 48), none⟩,
  ⟨.move (.tmp 1), (some 49), none⟩,
  ⟨.move (.tmp 2), (some 50), none⟩,
  ⟨.move (.tmp 4), (some 51), none⟩,
  ⟨.call (.func 74) [(.tmp 48), (.tmp 49), (.tmp 50), (.tmp 51)], (some 52), none⟩,
  ⟨.move (.tmp 52), (some 47), none⟩,
  ⟨.extract (.tmp 47) 0, (some 53), none⟩,
  ⟨.extract (.tmp 47) 1, (some 54), none⟩,
  ⟨.move (.tmp 53), (some 13), none⟩,
  ⟨.move (.tmp 54), (some 14), none⟩]
def o56_12 : List AOper := [⟨.move (.tmp 14), (some 55), none⟩,
  ⟨.bin .eql (.tmp 55) (.const (.int .i64 2)), (some 56), none⟩]
def o56_13 : List AOper := [⟨.move (.tmp 0), (some 57), none⟩,
  ⟨.move (.tmp 1), (some 58), none⟩,
  ⟨.move (.tmp 2), (some 59), none⟩,
  ⟨.move (.tmp 4), (some 60), none⟩,
  ⟨.call (.func 75) [(.tmp 57), (.tmp 58), (.tmp 59), (.tmp 60)], (some 61), none⟩]
def o56_14 : List AOper := [⟨.move (.tmp 2), (some 62), none⟩,
  ⟨.bin .sub (.tmp 62) (.const (.int .i64 1)), (some 63), none⟩,
  ⟨.move (.tmp 13), (some 64), none⟩,
  ⟨.move (.tmp 1), (some 65), none⟩,
  ⟨.bin .sub (.tmp 64) (.tmp 65), (some 66), none⟩,
  ⟨.bin .sub (.tmp 63) (.tmp 66), (some 67), none⟩,
  ⟨.move (.tmp 67), (some 13), none⟩]
def o56_15 : List AOper := [⟨.move (.const (.int .i64 1)), (some 14), none⟩]
def o56_16 : List AOper := [⟨.move (.tmp 10), (some 68), none⟩,
  ⟨.move (.tmp 68), (some 69), none⟩,
  ⟨.move (.tmp 11), (some 70), (some (69, true))⟩,
  ⟨.pick (.tmp 69) (.tmp 70) (.const (.bool false)), (some 71), none⟩,
  ⟨.move (.tmp 71), (some 72), none⟩,
  ⟨.move (.tmp 14), (some 73), (some (72, true))⟩,
  ⟨.bin .eql (.tmp 73) (.const (.int .i64 1)), (some 74), (some (72, true))⟩,
  ⟨.pick (.tmp 72) (.tmp 74) (.const (.bool false)), (some 75), none⟩]
def o56_17 : List AOper := [⟨.move (.tmp 0), (some 76), none⟩,
  ⟨.move (.tmp 1), (some 77), none⟩,
  ⟨.move (.tmp 2), (some 78), none⟩,
  ⟨.move (.tmp 4), (some 79), none⟩,
  ⟨.call (.func 76) [(.tmp 76), (.tmp 77), (.tmp 78), (.tmp 79)], (some 80), none⟩]
def d56_18 : List DOper := [⟨⟨.move (.tmp 1), (some 81), none⟩, 0⟩,
  ⟨⟨.bin .gtr (.tmp 81) (.const (.int .i64 0)), (some 82), none⟩, 1⟩,
  ⟨⟨.move (.tmp 82), (some 83), none⟩, 3⟩,
  ⟨⟨.move (.tmp 4), (some 84), (some (83, true))⟩, 7⟩,
  ⟨⟨.move (.tmp 0), (some 85), (some (83, true))⟩, 7⟩,
  ⟨⟨.move (.tmp 1), (some 86), (some (83, true))⟩, 7⟩,
  ⟨⟨.bin .sub (.tmp 86) (.const (.int .i64 1)), (some 87), (some (83, true))⟩, 39⟩,
  ⟨⟨.addrSl 1 (.tmp 85) (.tmp 87), (some 88), (some (83, true))⟩, 119⟩,
  ⟨⟨.load none (.tmp 88), (some 89), (some (83, true))⟩, 247⟩,
  ⟨⟨.move (.tmp 0), (some 90), (some (83, true))⟩, 7⟩,
  ⟨⟨.move (.tmp 13), (some 91), (some (83, true))⟩, 7⟩,
  ⟨⟨.addrSl 1 (.tmp 90) (.tmp 91), (some 92), (some (83, true))⟩, 1543⟩,
  ⟨⟨.load none (.tmp 92), (some 93), (some (83, true))⟩, 3591⟩,
  ⟨⟨.call (.tmp 84) [(.tmp 89), (.tmp 93)], (some 94), (some (83, true))⟩, 8191⟩,
  ⟨⟨.bin .lss (.tmp 94) (.const (.int .i64 0)), (some 95), (some (83, true))⟩, 16383⟩,
  ⟨⟨.un .not (.tmp 95), (some 96), (some (83, true))⟩, 32767⟩,
  ⟨⟨.pick (.tmp 83) (.tmp 96) (.const (.bool false)), (some 97), none⟩, 65535⟩]
def o56_19 : List AOper := [⟨.move (.tmp 0), (some 98), none⟩,
  ⟨.move (.tmp 1), (some 99), none⟩,
  ⟨.move (.tmp 2), (some 100), none⟩,
  ⟨.move (.tmp 13), (some 101), none⟩,
  ⟨.move (.tmp 4), (some 102), none⟩,
  ⟨.call (.func 77) [(.tmp 98), (.tmp 99), (.tmp 100), (.tmp 101), (.tmp 102)], (some 103), none⟩,
  ⟨.move (.tmp 103), (some 15), none⟩]
def o56_20 : List AOper := [⟨.move (.tmp 15), (some 104), none⟩,
  ⟨.move (.tmp 104), (some 1), none⟩]
def o56_21 : List AOper := [⟨.move (.tmp 0), (some 106), none⟩,
  ⟨.move (.tmp 1), (some 107), none⟩,
  ⟨.move (.tmp 2), (some 108), none⟩,
  ⟨.move (.tmp 13), (some 109), none⟩,
  ⟨.move (.tmp 4), (some 110), none⟩,
  ⟨.call (.func 78) [(.tmp 106), (.tmp 107), (.tmp 108), (.tmp 109), (.tmp 110)], (some 111), none⟩,
  ⟨.move (.tmp 111), (some 105), none⟩,
  ⟨.extract (.tmp 105) 0, (some 112), none⟩,
  ⟨.extract (.tmp 105) 1, (some 113), none⟩,
  ⟨.move (.tmp 112), (some 16), none⟩,
  ⟨.move (.tmp 113), (some 17), none⟩]
def o56_22 : List AOper := [⟨.move (.tmp 17), (some 114), none⟩,
  ⟨.move (.tmp 114), (some 11), none⟩]
def o56_23 : List AOper := [⟨.move (.tmp 16), (some 115), none⟩,
  ⟨.move (.tmp 1), (some 116), none⟩,
  ⟨.bin .sub (.tmp 115) (.tmp 116), (some 117), none⟩,
  ⟨.move (.tmp 2), (some 118), none⟩,
  ⟨.move (.tmp 16), (some 119), none⟩,
  ⟨.bin .sub (.tmp 118) (.tmp 119), (some 120), none⟩,
  ⟨.move (.tmp 117), (some 18), none⟩,
  ⟨.move (.tmp 120), (some 19), none⟩]
def o56_24 : List AOper := [⟨.move (.tmp 12), (some 121), none⟩,
  ⟨.bin .quo (.tmp 121) (.const (.int .i64 8)), (some 122), none⟩,
  ⟨.move (.tmp 122), (some 20), none⟩]
def o56_25 : List AOper := [⟨.move (.tmp 18), (some 123), none⟩,
  ⟨.move (.tmp 19), (some 124), none⟩,
  ⟨.bin .lss (.tmp 123) (.tmp 124), (some 125), none⟩]
def o56_26 : List AOper := [⟨.move (.tmp 18), (some 126), none⟩,
  ⟨.move (.tmp 20), (some 127), none⟩,
  ⟨.bin .geq (.tmp 126) (.tmp 127), (some 128), none⟩,
  ⟨.move (.tmp 128), (some 10), none⟩]
def o56_27 : List AOper := [⟨.move (.tmp 0), (some 129), none⟩,
  ⟨.move (.tmp 1), (some 130), none⟩,
  ⟨.move (.tmp 16), (some 131), none⟩,
  ⟨.move (.tmp 3), (some 132), none⟩,
  ⟨.move (.tmp 4), (some 133), none⟩,
  ⟨.call (.func 56) [(.tmp 129), (.tmp 130), (.tmp 131), (.tmp 132), (.tmp 133)], (some 134), none⟩]
def o56_28 : List AOper := [⟨.move (.tmp 16), (some 135), none⟩,
  ⟨.bin .add (.tmp 135) (.const (.int .i64 1)), (some 136), none⟩,
  ⟨.move (.tmp 136), (some 1), none⟩]
def o56_29 : List AOper := [⟨.move (.tmp 19), (some 137), none⟩,
  ⟨.move (.tmp 20), (some 138), none⟩,
  ⟨.bin .geq (.tmp 137) (.tmp 138), (some 139), none⟩,
  ⟨.move (.tmp 139), (some 10), none⟩]
def o56_30 : List AOper := [⟨.move (.tmp 0), (some 140), none⟩,
  ⟨.move (.tmp 16), (some 141), none⟩,
  ⟨.bin .add (.tmp 141) (.const (.int .i64 1)), (some 142), none⟩,
  ⟨.move (.tmp 2), (some 143), none⟩,
  ⟨.move (.tmp 3), (some 144), none⟩,
  ⟨.move (.tmp 4), (some 145), none⟩,
  ⟨.call (.func 56) [(.tmp 140), (.tmp 142), (.tmp 143), (.tmp 144), (.tmp 145)], (some 146), none⟩]
def o56_31 : List AOper := [⟨.move (.tmp 16), (some 147), none⟩,
  ⟨.move (.tmp 147), (some 2), none⟩]
def b56_2 : ACode := (.block 1 (.seq (.ops o56_3) (.seq (.seq (.ops o56_4) (.cond (.tmp 25) (.seq (.ops o56_5) .ret) .skip)) (.seq (.seq (.ops o56_6) (.cond (.tmp 32) (.seq (.ops o56_7) .ret) .skip)) (.seq (.seq (.ops o56_8) (.cond (.tmp 39) (.seq (.ops o56_9) (.ops o56_10)) .skip)) (.seq (.ops o56_11) (.seq (.seq (.ops o56_12) (.cond (.tmp 56) (.seq (.ops o56_13) (.seq (.ops o56_14) (.ops o56_15))) .skip)) (.seq (.seq (.ops o56_16) (.cond (.tmp 75) (.seq (.ops o56_17) (.cond (.tmp 80) .ret .skip)) .skip)) (.seq (.seq (.draw d56_18) (.cond (.tmp 97) (.seq (.ops o56_19) (.seq (.ops o56_20) (.exit 1))) .skip)) (.seq (.ops o56_21) (.seq (.ops o56_22) (.seq (.ops o56_23) (.seq (.ops o56_24) (.seq (.ops o56_25) (.cond (.tmp 125) (.seq (.ops o56_26) (.seq (.ops o56_27) (.ops o56_28))) (.seq (.ops o56_29) (.seq (.ops o56_30) (.ops o56_31))))))))))))))))))
def ir56 : AFn := ⟨148, [], (.seq (.ops o56_0) (.seq (.ops o56_1) (.block 0 (.loop b56_2))))⟩
theorem ir56_eq : fnsOf Try.prog 56 = some ir56 := by kernel_rfl
def o71_0 : List AOper := [⟨.move (.tmp 1), (some 10), none⟩,
  ⟨.bin .add (.tmp 10) (.const (.int .i64 1)), (some 11), none⟩,
  ⟨.move (.tmp 11), (some 8), none⟩]
def o71_2 : List AOper := [⟨.move (.tmp 8), (some 12), none⟩,
  ⟨.move (.tmp 2), (some 13), none⟩,
  ⟨.bin .lss (.tmp 12) (.tmp 13), (some 14), none⟩]
def o71_3 : List AOper := [⟨.move (.tmp 8), (some 17), none⟩,
  ⟨.move (.tmp 17), (some 9), none⟩]
def d71_5 : List DOper := [⟨⟨.move (.tmp 9), (some 18), none⟩, 0⟩,
  ⟨⟨.move (.tmp 1), (some 19), none⟩, 0⟩,
  ⟨⟨.bin .gtr (.tmp 18) (.tmp 19), (some 20), none⟩, 3⟩,
  ⟨⟨.move (.tmp 20), (some 21), none⟩, 7⟩,
  ⟨⟨.move (.tmp 3), (some 22), (some (21, true))⟩, 15⟩,
  ⟨⟨.move (.tmp 0), (some 23), (some (21, true))⟩, 15⟩,
  ⟨⟨.move (.tmp 9), (some 24), (some (21, true))⟩, 15⟩,
  ⟨⟨.addrSl 1 (.tmp 23) (.tmp 24), (some 25), (some (21, true))⟩, 111⟩,
  ⟨⟨.load none (.tmp 25), (some 26), (some (21, true))⟩, 239⟩,
  ⟨⟨.move (.tmp 0), (some 27), (some (21, true))⟩, 15⟩,
  ⟨⟨.move (.tmp 9), (some 28), (some (21, true))⟩, 15⟩,
  ⟨⟨.bin .sub (.tmp 28) (.const (.int .i64 1)), (some 29), (some (21, true))⟩, 1039⟩,
  ⟨⟨.addrSl 1 (.tmp 27) (.tmp 29), (some 30), (some (21, true))⟩, 3599⟩,
  ⟨⟨.load none (.tmp 30), (some 31), (some (21, true))⟩, 7695⟩,
  ⟨⟨.call (.tmp 22) [(.tmp 26), (.tmp 31)], (some 32), (some (21, true))⟩, 16383⟩,
  ⟨⟨.bin .lss (.tmp 32) (.const (.int .i64 0)), (some 33), (some (21, true))⟩, 32767⟩,
  ⟨⟨.pick (.tmp 21) (.tmp 33) (.const (.bool false)), (some 34), none⟩, 65535⟩]
def d71_6 : List DOper := [⟨⟨.move (.tmp 0), (some 37), none⟩, 0⟩,
  ⟨⟨.move (.tmp 9), (some 38), none⟩, 0⟩,
  ⟨⟨.move (.tmp 0), (some 39), none⟩, 0⟩,
  ⟨⟨.move (.tmp 9), (some 40), none⟩, 0⟩,
  ⟨⟨.bin .sub (.tmp 40) (.const (.int .i64 1)), (some 41), none⟩, 8⟩,
  ⟨⟨.move (.tmp 0), (some 42), none⟩, 0⟩,
  ⟨⟨.move (.tmp 9), (some 43), none⟩, 0⟩,
  ⟨⟨.bin .sub (.tmp 43) (.const (.int .i64 1)), (some 44), none⟩, 64⟩,
  ⟨⟨.addrSl 1 (.tmp 42) (.tmp 44), (some 45), none⟩, 224⟩,
  ⟨⟨.load none (.tmp 45), (some 46), none⟩, 480⟩,
  ⟨⟨.move (.tmp 0), (some 47), none⟩, 0⟩,
  ⟨⟨.move (.tmp 9), (some 48), none⟩, 0⟩,
  ⟨⟨.addrSl 1 (.tmp 47) (.tmp 48), (some 49), none⟩, 3072⟩,
  ⟨⟨.load none (.tmp 49), (some 50), none⟩, 7168⟩,
  ⟨⟨.addrSl 1 (.tmp 37) (.tmp 38), (some 51), none⟩, 16355⟩,
  ⟨⟨.store 1 (.tmp 51) (.tmp 46), none, none⟩, 32739⟩,
  ⟨⟨.addrSl 1 (.tmp 39) (.tmp 41), (some 52), none⟩, 65535⟩,
  ⟨⟨.store 1 (.tmp 52) (.tmp 50), none, none⟩, 131071⟩]
def o71_7 : List AOper := [⟨.move (.tmp 9), (some 35), none⟩,
  ⟨.bin .sub (.tmp 35) (.const (.int .i64 1)), (some 36), none⟩,
  ⟨.move (.tmp 36), (some 9), none⟩]
def b71_4 : ACode := (.seq (.seq (.draw d71_5) (.cond (.tmp 34) .skip (.exit 2))) (.seq (.block 3 (.draw d71_6)) (.ops o71_7)))
def o71_8 : List AOper := [⟨.move (.tmp 8), (some 15), none⟩,
  ⟨.bin .add (.tmp 15) (.const (.int .i64 1)), (some 16), none⟩,
  ⟨.move (.tmp 16), (some 8), none⟩]
def b71_1 : ACode := (.seq (.seq (.ops o71_2) (.cond (.tmp 14) .skip (.exit 0))) (.seq (.block 1 (.seq (.ops o71_3) (.block 2 (.loop b71_4)))) (.ops o71_8)))
def ir71 : AFn := ⟨53, [], (.seq (.ops o71_0) (.block 0 (.loop b71_1)))⟩
theorem ir71_eq : fnsOf Try.prog 71 = some ir71 := by kernel_rfl
def o72_0 : List AOper := [⟨.move (.tmp 1), (some 13), none⟩,
  ⟨.move (.tmp 13), (some 8), none⟩]
def o72_1 : List AOper := [⟨.move (.const (.int .i64 0)), (some 9), none⟩]
def o72_2 : List AOper := [⟨.move (.tmp 2), (some 14), none⟩,
  ⟨.move (.tmp 1), (some 15), none⟩,
  ⟨.bin .sub (.tmp 14) (.tmp 15), (some 16), none⟩,
  ⟨.move (.tmp 16), (some 10), none⟩]
def o72_3 : List AOper := [⟨.move (.tmp 10), (some 17), none⟩,
  ⟨.bin .sub (.tmp 17) (.const (.int .i64 1)), (some 18), none⟩,
  ⟨.bin .quo (.tmp 18) (.const (.int .i64 2)), (some 19), none⟩,
  ⟨.move (.tmp 19), (some 11), none⟩]
def o72_5 : List AOper := [⟨.move (.tmp 11), (some 20), none⟩,
  ⟨.bin .geq (.tmp 20) (.const (.int .i64 0)), (some 21), none⟩]
def o72_6 : List AOper := [⟨.move (.tmp 0), (some 24), none⟩,
  ⟨.move (.tmp 11), (some 25), none⟩,
  ⟨.move (.tmp 10), (some 26), none⟩,
  ⟨.move (.tmp 8), (some 27), none⟩,
  ⟨.move (.tmp 3), (some 28), none⟩,
  ⟨.call (.func 84) [(.tmp 24), (.tmp 25), (.tmp 26), (.tmp 27), (.tmp 28)], (some 29), none⟩]
def o72_7 : List AOper := [⟨.move (.tmp 11), (some 22), none⟩,
  ⟨.bin .sub (.tmp 22) (.const (.int .i64 1)), (some 23), none⟩,
  ⟨.move (.tmp 23), (some 11), none⟩]
def b72_4 : ACode := (.seq (.seq (.ops o72_5) (.cond (.tmp 21) .skip (.exit 0))) (.seq (.block 1 (.ops o72_6)) (.ops o72_7)))
def o72_8 : List AOper := [⟨.move (.tmp 10), (some 30), none⟩,
  ⟨.bin .sub (.tmp 30) (.const (.int .i64 1)), (some 31), none⟩,
  ⟨.move (.tmp 31), (some 12), none⟩]
def o72_10 : List AOper := [⟨.move (.tmp 12), (some 32), none⟩,
  ⟨.bin .geq (.tmp 32) (.const (.int .i64 0)), (some 33), none⟩]
def d72_11 : List DOper := [⟨⟨.move (.tmp 0), (some 36), none⟩, 0⟩,
  ⟨⟨.move (.tmp 8), (some 37), none⟩, 0⟩,
  ⟨⟨.move (.tmp 0), (some 38), none⟩, 0⟩,
  ⟨⟨.move (.tmp 8), (some 39), none⟩, 0⟩,
  ⟨⟨.move (.tmp 12), (some 40), none⟩, 0⟩,
  ⟨⟨.bin .add (.tmp 39) (.tmp 40), (some 41), none⟩, 24⟩,
  ⟨⟨.move (.tmp 0), (some 42), none⟩, 0⟩,
  ⟨⟨.move (.tmp 8), (some 43), none⟩, 0⟩,
  ⟨⟨.move (.tmp 12), (some 44), none⟩, 0⟩,
  ⟨⟨.bin .add (.tmp 43) (.tmp 44), (some 45), none⟩, 384⟩,
  ⟨⟨.addrSl 1 (.tmp 42) (.tmp 45), (some 46), none⟩, 960⟩,
  ⟨⟨.load none (.tmp 46), (some 47), none⟩, 1984⟩,
  ⟨⟨.move (.tmp 0), (some 48), none⟩, 0⟩,
  ⟨⟨.move (.tmp 8), (some 49), none⟩, 0⟩,
  ⟨⟨.addrSl 1 (.tmp 48) (.tmp 49), (some 50), none⟩, 12288⟩,
  ⟨⟨.load none (.tmp 50), (some 51), none⟩, 28672⟩,
  ⟨⟨.addrSl 1 (.tmp 36) (.tmp 37), (some 52), none⟩, 65475⟩,
  ⟨⟨.store 1 (.tmp 52) (.tmp 47), none, none⟩, 131011⟩,
  ⟨⟨.addrSl 1 (.tmp 38) (.tmp 41), (some 53), none⟩, 262143⟩,
  ⟨⟨.store 1 (.tmp 53) (.tmp 51), none, none⟩, 524287⟩]
def o72_12 : List AOper := [⟨.move (.tmp 0), (some 54), none⟩,
  ⟨.move (.tmp 9), (some 55), none⟩,
  ⟨.move (.tmp 12), (some 56), none⟩,
  ⟨.move (.tmp 8), (some 57), none⟩,
  ⟨.move (.tmp 3), (some 58), none⟩,
  ⟨.call (.func 84) [(.tmp 54), (.tmp 55), (.tmp 56), (.tmp 57), (.tmp 58)], (some 59), none⟩]
def o72_13 : List AOper := [⟨.move (.tmp 12), (some 34), none⟩,
  ⟨.bin .sub (.tmp 34) (.const (.int .i64 1)), (some 35), none⟩,
  ⟨.move (.tmp 35), (some 12), none⟩]
def b72_9 : ACode := (.seq (.seq (.ops o72_10) (.cond (.tmp 33) .skip (.exit 2))) (.seq (.block 3 (.seq (.draw d72_11) (.ops o72_12))) (.ops o72_13)))
def ir72 : AFn := ⟨60, [], (.seq (.ops o72_0) (.seq (.ops o72_1) (.seq (.ops o72_2) (.seq (.seq (.ops o72_3) (.block 0 (.loop b72_4))) (.seq (.ops o72_8) (.block 2 (.loop b72_9)))))))⟩
theorem ir72_eq : fnsOf Try.prog 72 = some ir72 := by kernel_rfl
def o73_0 : List AOper := [⟨.move (.tmp 2), (some 13), none⟩,
  ⟨.move (.tmp 1), (some 14), none⟩,
  ⟨.bin .sub (.tmp 13) (.tmp 14), (some 15), none⟩,
  ⟨.move (.tmp 15), (some 8), none⟩]
def o73_1 : List AOper := [⟨.move (.tmp 8), (some 16), none⟩,
  ⟨.bin .geq (.tmp 16) (.const (.int .i64 8)), (some 17), none⟩]
def o73_2 : List AOper := [⟨.move (.tmp 8), (some 18), none⟩,
  ⟨.conv (.toInt .u64) (.tmp 18), (some 19), none⟩,
  ⟨.alloc 102 [(.int .u64 0)], (some 9), none⟩,
  ⟨.store 1 (.tmp 9) (.tmp 19), none, none⟩]
def o73_3 : List AOper := [⟨.move (.tmp 8), (some 20), none⟩,
  ⟨.call (.func 80) [(.tmp 20)], (some 21), none⟩,
  ⟨.move (.tmp 21), (some 10), none⟩]
def o73_4 : List AOper := [⟨.move (.tmp 1), (some 22), none⟩,
  ⟨.move (.tmp 8), (some 23), none⟩,
  ⟨.bin .quo (.tmp 23) (.const (.int .i64 4)), (some 24), none⟩,
  ⟨.bin .mul (.tmp 24) (.const (.int .i64 2)), (some 25), none⟩,
  ⟨.bin .add (.tmp 22) (.tmp 25), (some 26), none⟩,
  ⟨.bin .sub (.tmp 26) (.const (.int .i64 1)), (some 27), none⟩,
  ⟨.move (.tmp 27), (some 11), none⟩]
def o73_6 : List AOper := [⟨.move (.tmp 11), (some 28), none⟩,
  ⟨.move (.tmp 1), (some 29), none⟩,
  ⟨.move (.tmp 8), (some 30), none⟩,
  ⟨.bin .quo (.tmp 30) (.const (.int .i64 4)), (some 31), none⟩,
  ⟨.bin .mul (.tmp 31) (.const (.int .i64 2)), (some 32), none⟩,
  ⟨.bin .add (.tmp 29) (.tmp 32), (some 33), none⟩,
  ⟨.bin .add (.tmp 33) (.const (.int .i64 1)), (some 34), none⟩,
  ⟨.bin .leq (.tmp 28) (.tmp 34), (some 35), none⟩]
def o73_7 : List AOper := [⟨.call (.func 81) [(.tmp 9)], (some 38), none⟩,
  ⟨.move (.tmp 10), (some 39), none⟩,
  ⟨.bin .sub (.tmp 39) (.const (.int .u64 1)), (some 40), none⟩,
  ⟨.bin .and (.tmp 38) (.tmp 40), (some 41), none⟩,
  ⟨.conv (.toInt .i64) (.tmp 41), (some 42), none⟩,
  ⟨.move (.tmp 42), (some 12), none⟩]
def o73_8 : List AOper := [⟨.move (.tmp 12), (some 43), none⟩,
  ⟨.move (.tmp 8), (some 44), none⟩,
  ⟨.bin .geq (.tmp 43) (.tmp 44), (some 45), none⟩]
def o73_9 : List AOper := [⟨.move (.tmp 12), (some 46), none⟩,
  ⟨.move (.tmp 8), (some 47), none⟩,
  ⟨.bin .sub (.tmp 46) (.tmp 47), (some 48), none⟩,
  ⟨.move (.tmp 48), (some 12), none⟩]
def d73_10 : List DOper := [⟨⟨.move (.tmp 0), (some 49), none⟩, 0⟩,
  ⟨⟨.move (.tmp 11), (some 50), none⟩, 0⟩,
  ⟨⟨.move (.tmp 0), (some 51), none⟩, 0⟩,
  ⟨⟨.move (.tmp 1), (some 52), none⟩, 0⟩,
  ⟨⟨.move (.tmp 12), (some 53), none⟩, 0⟩,
  ⟨⟨.bin .add (.tmp 52) (.tmp 53), (some 54), none⟩, 24⟩,
  ⟨⟨.move (.tmp 0), (some 55), none⟩, 0⟩,
  ⟨⟨.move (.tmp 1), (some 56), none⟩, 0⟩,
  ⟨⟨.move (.tmp 12), (some 57), none⟩, 0⟩,
  ⟨⟨.bin .add (.tmp 56) (.tmp 57), (some 58), none⟩, 384⟩,
  ⟨⟨.addrSl 1 (.tmp 55) (.tmp 58), (some 59), none⟩, 960⟩,
  ⟨⟨.load none (.tmp 59), (some 60), none⟩, 1984⟩,
  ⟨⟨.move (.tmp 0), (some 61), none⟩, 0⟩,
  ⟨⟨.move (.tmp 11), (some 62), none⟩, 0⟩,
  ⟨⟨.addrSl 1 (.tmp 61) (.tmp 62), (some 63), none⟩, 12288⟩,
  ⟨⟨.load none (.tmp 63), (some 64), none⟩, 28672⟩,
  ⟨⟨.addrSl 1 (.tmp 49) (.tmp 50), (some 65), none⟩, 65475⟩,
  ⟨⟨.store 1 (.tmp 65) (.tmp 60), none, none⟩, 131011⟩,
  ⟨⟨.addrSl 1 (.tmp 51) (.tmp 54), (some 66), none⟩, 262143⟩,
  ⟨⟨.store 1 (.tmp 66) (.tmp 64), none, none⟩, 524287⟩]
def o73_11 : List AOper := [⟨.move (.tmp 11), (some 36), none⟩,
  ⟨.bin .add (.tmp 36) (.const (.int .i64 1)), (some 37), none⟩,
  ⟨.move (.tmp 37), (some 11), none⟩]
def b73_5 : ACode := (.seq (.seq (.ops o73_6) (.cond (.tmp 35) .skip (.exit 0))) (.seq (.block 1 (.seq (.ops o73_7) (.seq (.seq (.ops o73_8) (.cond (.tmp 45) (.ops o73_9) .skip)) (.draw d73_10)))) (.ops o73_11)))
def ir73 : AFn := ⟨67, [], (.seq (.ops o73_0) (.seq (.ops o73_1) (.cond (.tmp 17) (.seq (.ops o73_2) (.seq (.ops o73_3) (.seq (.ops o73_4) (.block 0 (.loop b73_5))))) .skip)))⟩
theorem ir73_eq : fnsOf Try.prog 73 = some ir73 := by kernel_rfl
def o74_0 : List AOper := [⟨.move (.const (.int .i64 0)), (some 8), none⟩,
  ⟨.move (.const (.int .i64 0)), (some 9), none⟩]
def o74_1 : List AOper := [⟨.move (.tmp 2), (some 15), none⟩,
  ⟨.move (.tmp 1), (some 16), none⟩,
  ⟨.bin .sub (.tmp 15) (.tmp 16), (some 17), none⟩,
  ⟨.move (.tmp 17), (some 10), none⟩]
def o74_2 : List AOper := [⟨.alloc 3 [(.int .i64 0)], (some 11), none⟩]
def o74_3 : List AOper := [⟨.move (.tmp 1), (some 18), none⟩,
  ⟨.move (.tmp 10), (some 19), none⟩,
  ⟨.bin .quo (.tmp 19) (.const (.int .i64 4)), (some 20), none⟩,
  ⟨.bin .mul (.tmp 20) (.const (.int .i64 1)), (some 21), none⟩,
  ⟨.bin .add (.tmp 18) (.tmp 21), (some 22), none⟩,
  ⟨.move (.tmp 22), (some 12), none⟩]
def o74_4 : List AOper := [⟨.move (.tmp 1), (some 23), none⟩,
  ⟨.move (.tmp 10), (some 24), none⟩,
  ⟨.bin .quo (.tmp 24) (.const (.int .i64 4)), (some 25), none⟩,
  ⟨.bin .mul (.tmp 25) (.const (.int .i64 2)), (some 26), none⟩,
  ⟨.bin .add (.tmp 23) (.tmp 26), (some 27), none⟩,
  ⟨.move (.tmp 27), (some 13), none⟩]
def o74_5 : List AOper := [⟨.move (.tmp 1), (some 28), none⟩,
  ⟨.move (.tmp 10), (some 29), none⟩,
  ⟨.bin .quo (.tmp 29) (.const (.int .i64 4)), (some 30), none⟩,
  ⟨.bin .mul (.tmp 30) (.const (.int .i64 3)), (some 31), none⟩,
  ⟨.bin .add (.tmp 28) (.tmp 31), (some 32), none⟩,
  ⟨.move (.tmp 32), (some 14), none⟩]
def o74_6 : List AOper := [⟨.move (.tmp 10), (some 33), none⟩,
  ⟨.bin .geq (.tmp 33) (.const (.int .i64 8)), (some 34), none⟩]
def o74_7 : List AOper := [⟨.move (.tmp 10), (some 35), none⟩,
  ⟨.bin .geq (.tmp 35) (.const (.int .i64 50)), (some 36), none⟩]
def o74_8 : List AOper := [⟨.move (.tmp 0), (some 37), none⟩,
  ⟨.move (.tmp 12), (some 38), none⟩,
  ⟨.move (.tmp 3), (some 39), none⟩,
  ⟨.call (.func 85) [(.tmp 37), (.tmp 38), (.tmp 11), (.tmp 39)], (some 40), none⟩,
  ⟨.move (.tmp 40), (some 12), none⟩]
def o74_9 : List AOper := [⟨.move (.tmp 0), (some 41), none⟩,
  ⟨.move (.tmp 13), (some 42), none⟩,
  ⟨.move (.tmp 3), (some 43), none⟩,
  ⟨.call (.func 85) [(.tmp 41), (.tmp 42), (.tmp 11), (.tmp 43)], (some 44), none⟩,
  ⟨.move (.tmp 44), (some 13), none⟩]
def o74_10 : List AOper := [⟨.move (.tmp 0), (some 45), none⟩,
  ⟨.move (.tmp 14), (some 46), none⟩,
  ⟨.move (.tmp 3), (some 47), none⟩,
  ⟨.call (.func 85) [(.tmp 45), (.tmp 46), (.tmp 11), (.tmp 47)], (some 48), none⟩,
  ⟨.move (.tmp 48), (some 14), none⟩]
def o74_11 : List AOper := [⟨.move (.tmp 0), (some 49), none⟩,
  ⟨.move (.tmp 12), (some 50), none⟩,
  ⟨.move (.tmp 13), (some 51), none⟩,
  ⟨.move (.tmp 14), (some 52), none⟩,
  ⟨.move (.tmp 3), (some 53), none⟩,
  ⟨.call (.func 86) [(.tmp 49), (.tmp 50), (.tmp 51), (.tmp 52), (.tmp 11), (.tmp 53)], (some 54), none⟩,
  ⟨.move (.tmp 54), (some 13), none⟩]
def o74_12 : List AOper := [⟨.load none (.tmp 11), (some 55), none⟩]
def o74_13 : List AOper := [⟨.bin .eql (.tmp 55) (.const (.int .i64 0)), (some 58), none⟩,
  ⟨.move (.tmp 58), (some 57), none⟩]
def o74_14 : List AOper := [⟨.move (.tmp 13), (some 59), none⟩,
  ⟨.move (.tmp 59), (some 8), none⟩,
  ⟨.move (.const (.int .i64 1)), (some 9), none⟩]
def o74_15 : List AOper := [⟨.bin .eql (.tmp 55) (.const (.int .i64 12)), (some 61), none⟩,
  ⟨.move (.tmp 61), (some 60), none⟩]
def o74_16 : List AOper := [⟨.move (.tmp 13), (some 62), none⟩,
  ⟨.move (.tmp 62), (some 8), none⟩,
  ⟨.move (.const (.int .i64 2)), (some 9), none⟩]
def o74_17 : List AOper := [⟨.move (.tmp 13), (some 56), none⟩,
  ⟨.move (.tmp 56), (some 8), none⟩,
  ⟨.move (.const (.int .i64 0)), (some 9), none⟩]
def ir74 : AFn := ⟨63, [.tmp 8, .tmp 9], (.seq (.ops o74_0) (.seq (.ops o74_1) (.seq (.ops o74_2) (.seq (.ops o74_3) (.seq (.ops o74_4) (.seq (.ops o74_5) (.seq (.seq (.ops o74_6) (.cond (.tmp 34) (.seq (.seq (.ops o74_7) (.cond (.tmp 36) (.seq (.ops o74_8) (.seq (.ops o74_9) (.ops o74_10))) .skip)) (.ops o74_11)) .skip)) (.seq (.ops o74_12) (.block 0 (.seq (.ops o74_13) (.cond (.tmp 57) (.seq (.ops o74_14) .ret) (.seq (.ops o74_15) (.cond (.tmp 60) (.seq (.ops o74_16) .ret) (.seq (.ops o74_17) .ret))))))))))))))⟩
theorem ir74_eq : fnsOf Try.prog 74 = some ir74 := by kernel_rfl
def o75_0 : List AOper := [⟨.move (.tmp 1), (some 10), none⟩,
  ⟨.move (.tmp 10), (some 8), none⟩]
def o75_1 : List AOper := [⟨.move (.tmp 2), (some 11), none⟩,
  ⟨.bin .sub (.tmp 11) (.const (.int .i64 1)), (some 12), none⟩,
  ⟨.move (.tmp 12), (some 9), none⟩]
def o75_3 : List AOper := [⟨.move (.tmp 8), (some 13), none⟩,
  ⟨.move (.tmp 9), (some 14), none⟩,
  ⟨.bin .lss (.tmp 13) (.tmp 14), (some 15), none⟩]
def d75_4 : List DOper := [⟨⟨.move (.tmp 0), (some 16), none⟩, 0⟩,
  ⟨⟨.move (.tmp 8), (some 17), none⟩, 0⟩,
  ⟨⟨.move (.tmp 0), (some 18), none⟩, 0⟩,
  ⟨⟨.move (.tmp 9), (some 19), none⟩, 0⟩,
  ⟨⟨.move (.tmp 0), (some 20), none⟩, 0⟩,
  ⟨⟨.move (.tmp 9), (some 21), none⟩, 0⟩,
  ⟨⟨.addrSl 1 (.tmp 20) (.tmp 21), (some 22), none⟩, 48⟩,
  ⟨⟨.load none (.tmp 22), (some 23), none⟩, 112⟩,
  ⟨⟨.move (.tmp 0), (some 24), none⟩, 0⟩,
  ⟨⟨.move (.tmp 8), (some 25), none⟩, 0⟩,
  ⟨⟨.addrSl 1 (.tmp 24) (.tmp 25), (some 26), none⟩, 768⟩,
  ⟨⟨.load none (.tmp 26), (some 27), none⟩, 1792⟩,
  ⟨⟨.addrSl 1 (.tmp 16) (.tmp 17), (some 28), none⟩, 4083⟩,
  ⟨⟨.store 1 (.tmp 28) (.tmp 23), none, none⟩, 8179⟩,
  ⟨⟨.addrSl 1 (.tmp 18) (.tmp 19), (some 29), none⟩, 16383⟩,
  ⟨⟨.store 1 (.tmp 29) (.tmp 27), none, none⟩, 32767⟩]
def o75_5 : List AOper := [⟨.move (.tmp 8), (some 30), none⟩,
  ⟨.bin .add (.tmp 30) (.const (.int .i64 1)), (some 31), none⟩,
  ⟨.move (.tmp 31), (some 8), none⟩]
def o75_6 : List AOper := [⟨.move (.tmp 9), (some 32), none⟩,
  ⟨.bin .sub (.tmp 32) (.const (.int .i64 1)), (some 33), none⟩,
  ⟨.move (.tmp 33), (some 9), none⟩]
def b75_2 : ACode := (.seq (.seq (.ops o75_3) (.cond (.tmp 15) .skip (.exit 0))) (.block 1 (.seq (.draw d75_4) (.seq (.ops o75_5) (.ops o75_6)))))
def ir75 : AFn := ⟨34, [], (.seq (.ops o75_0) (.seq (.ops o75_1) (.block 0 (.loop b75_2))))⟩
theorem ir75_eq : fnsOf Try.prog 75 = some ir75 := by kernel_rfl
def o76_0 : List AOper := [⟨.move (.const (.bool false)), (some 8), none⟩]
def o76_1 : List AOper := [⟨.move (.tmp 1), (some 13), none⟩,
  ⟨.bin .add (.tmp 13) (.const (.int .i64 1)), (some 14), none⟩,
  ⟨.move (.tmp 14), (some 9), none⟩]
def o76_2 : List AOper := [⟨.move (.const (.int .i64 0)), (some 10), none⟩]
def o76_4 : List AOper := [⟨.move (.tmp 10), (some 15), none⟩,
  ⟨.bin .lss (.tmp 15) (.const (.int .i64 5)), (some 16), none⟩]
def d76_6 : List DOper := [⟨⟨.move (.tmp 9), (some 19), none⟩, 0⟩,
  ⟨⟨.move (.tmp 2), (some 20), none⟩, 0⟩,
  ⟨⟨.bin .lss (.tmp 19) (.tmp 20), (some 21), none⟩, 3⟩,
  ⟨⟨.move (.tmp 21), (some 22), none⟩, 7⟩,
  ⟨⟨.move (.tmp 3), (some 23), (some (22, true))⟩, 15⟩,
  ⟨⟨.move (.tmp 0), (some 24), (some (22, true))⟩, 15⟩,
  ⟨⟨.move (.tmp 9), (some 25), (some (22, true))⟩, 15⟩,
  ⟨⟨.addrSl 1 (.tmp 24) (.tmp 25), (some 26), (some (22, true))⟩, 111⟩,
  ⟨⟨.load none (.tmp 26), (some 27), (some (22, true))⟩, 239⟩,
  ⟨⟨.move (.tmp 0), (some 28), (some (22, true))⟩, 15⟩,
  ⟨⟨.move (.tmp 9), (some 29), (some (22, true))⟩, 15⟩,
  ⟨⟨.bin .sub (.tmp 29) (.const (.int .i64 1)), (some 30), (some (22, true))⟩, 1039⟩,
  ⟨⟨.addrSl 1 (.tmp 28) (.tmp 30), (some 31), (some (22, true))⟩, 3599⟩,
  ⟨⟨.load none (.tmp 31), (some 32), (some (22, true))⟩, 7695⟩,
  ⟨⟨.call (.tmp 23) [(.tmp 27), (.tmp 32)], (some 33), (some (22, true))⟩, 16383⟩,
  ⟨⟨.bin .lss (.tmp 33) (.const (.int .i64 0)), (some 34), (some (22, true))⟩, 32767⟩,
  ⟨⟨.un .not (.tmp 34), (some 35), (some (22, true))⟩, 65535⟩,
  ⟨⟨.pick (.tmp 22) (.tmp 35) (.const (.bool false)), (some 36), none⟩, 131071⟩]
def o76_7 : List AOper := [⟨.move (.tmp 9), (some 37), none⟩,
  ⟨.bin .add (.tmp 37) (.const (.int .i64 1)), (some 38), none⟩,
  ⟨.move (.tmp 38), (some 9), none⟩]
def b76_5 : ACode := (.seq (.seq (.draw d76_6) (.cond (.tmp 36) .skip (.exit 2))) (.block 3 (.ops o76_7)))
def o76_8 : List AOper := [⟨.move (.tmp 9), (some 39), none⟩,
  ⟨.move (.tmp 2), (some 40), none⟩,
  ⟨.bin .eql (.tmp 39) (.tmp 40), (some 41), none⟩]
def o76_9 : List AOper := [⟨.move (.const (.bool true)), (some 8), none⟩]
def o76_10 : List AOper := [⟨.move (.tmp 2), (some 42), none⟩,
  ⟨.move (.tmp 1), (some 43), none⟩,
  ⟨.bin .sub (.tmp 42) (.tmp 43), (some 44), none⟩,
  ⟨.bin .lss (.tmp 44) (.const (.int .i64 50)), (some 45), none⟩]
def o76_11 : List AOper := [⟨.move (.const (.bool false)), (some 8), none⟩]
def d76_12 : List DOper := [⟨⟨.move (.tmp 0), (some 46), none⟩, 0⟩,
  ⟨⟨.move (.tmp 9), (some 47), none⟩, 0⟩,
  ⟨⟨.move (.tmp 0), (some 48), none⟩, 0⟩,
  ⟨⟨.move (.tmp 9), (some 49), none⟩, 0⟩,
  ⟨⟨.bin .sub (.tmp 49) (.const (.int .i64 1)), (some 50), none⟩, 8⟩,
  ⟨⟨.move (.tmp 0), (some 51), none⟩, 0⟩,
  ⟨⟨.move (.tmp 9), (some 52), none⟩, 0⟩,
  ⟨⟨.bin .sub (.tmp 52) (.const (.int .i64 1)), (some 53), none⟩, 64⟩,
  ⟨⟨.addrSl 1 (.tmp 51) (.tmp 53), (some 54), none⟩, 224⟩,
  ⟨⟨.load none (.tmp 54), (some 55), none⟩, 480⟩,
  ⟨⟨.move (.tmp 0), (some 56), none⟩, 0⟩,
  ⟨⟨.move (.tmp 9), (some 57), none⟩, 0⟩,
  ⟨⟨.addrSl 1 (.tmp 56) (.tmp 57), (some 58), none⟩, 3072⟩,
  ⟨⟨.load none (.tmp 58), (some 59), none⟩, 7168⟩,
  ⟨⟨.addrSl 1 (.tmp 46) (.tmp 47), (some 60), none⟩, 16355⟩,
  ⟨⟨.store 1 (.tmp 60) (.tmp 55), none, none⟩, 32739⟩,
  ⟨⟨.addrSl 1 (.tmp 48) (.tmp 50), (some 61), none⟩, 65535⟩,
  ⟨⟨.store 1 (.tmp 61) (.tmp 59), none, none⟩, 131071⟩]
def o76_13 : List AOper := [⟨.move (.tmp 9), (some 62), none⟩,
  ⟨.move (.tmp 1), (some 63), none⟩,
  ⟨.bin .sub (.tmp 62) (.tmp 63), (some 64), none⟩,
  ⟨.bin .geq (.tmp 64) (.const (.int .i64 2)), (some 65), none⟩]
def o76_14 : List AOper := [⟨.move (.tmp 9), (some 66), none⟩,
  ⟨.bin .sub (.tmp 66) (.const (.int .i64 1)), (some 67), none⟩,
  ⟨.move (.tmp 67), (some 11), none⟩]
def o76_16 : List AOper := [⟨.move (.tmp 11), (some 68), none⟩,
  ⟨.bin .geq (.tmp 68) (.const (.int .i64 1)), (some 69), none⟩]
def d76_17 : List DOper := [⟨⟨.move (.tmp 3), (some 72), none⟩, 0⟩,
  ⟨⟨.move (.tmp 0), (some 73), none⟩, 0⟩,
  ⟨⟨.move (.tmp 11), (some 74), none⟩, 0⟩,
  ⟨⟨.addrSl 1 (.tmp 73) (.tmp 74), (some 75), none⟩, 6⟩,
  ⟨⟨.load none (.tmp 75), (some 76), none⟩, 14⟩,
  ⟨⟨.move (.tmp 0), (some 77), none⟩, 0⟩,
  ⟨⟨.move (.tmp 11), (some 78), none⟩, 0⟩,
  ⟨⟨.bin .sub (.tmp 78) (.const (.int .i64 1)), (some 79), none⟩, 64⟩,
  ⟨⟨.addrSl 1 (.tmp 77) (.tmp 79), (some 80), none⟩, 224⟩,
  ⟨⟨.load none (.tmp 80), (some 81), none⟩, 480⟩,
  ⟨⟨.call (.tmp 72) [(.tmp 76), (.tmp 81)], (some 82), none⟩, 1023⟩,
  ⟨⟨.bin .lss (.tmp 82) (.const (.int .i64 0)), (some 83), none⟩, 2047⟩,
  ⟨⟨.un .not (.tmp 83), (some 84), none⟩, 4095⟩]
def d76_18 : List DOper := [⟨⟨.move (.tmp 0), (some 85), none⟩, 0⟩,
  ⟨⟨.move (.tmp 11), (some 86), none⟩, 0⟩,
  ⟨⟨.move (.tmp 0), (some 87), none⟩, 0⟩,
  ⟨⟨.move (.tmp 11), (some 88), none⟩, 0⟩,
  ⟨⟨.bin .sub (.tmp 88) (.const (.int .i64 1)), (some 89), none⟩, 8⟩,
  ⟨⟨.move (.tmp 0), (some 90), none⟩, 0⟩,
  ⟨⟨.move (.tmp 11), (some 91), none⟩, 0⟩,
  ⟨⟨.bin .sub (.tmp 91) (.const (.int .i64 1)), (some 92), none⟩, 64⟩,
  ⟨⟨.addrSl 1 (.tmp 90) (.tmp 92), (some 93), none⟩, 224⟩,
  ⟨⟨.load none (.tmp 93), (some 94), none⟩, 480⟩,
  ⟨⟨.move (.tmp 0), (some 95), none⟩, 0⟩,
  ⟨⟨.move (.tmp 11), (some 96), none⟩, 0⟩,
  ⟨⟨.addrSl 1 (.tmp 95) (.tmp 96), (some 97), none⟩, 3072⟩,
  ⟨⟨.load none (.tmp 97), (some 98), none⟩, 7168⟩,
  ⟨⟨.addrSl 1 (.tmp 85) (.tmp 86), (some 99), none⟩, 16355⟩,
  ⟨⟨.store 1 (.tmp 99) (.tmp 94), none, none⟩, 32739⟩,
  ⟨⟨.addrSl 1 (.tmp 87) (.tmp 89), (some 100), none⟩, 65535⟩,
  ⟨⟨.store 1 (.tmp 100) (.tmp 98), none, none⟩, 131071⟩]
def o76_19 : List AOper := [⟨.move (.tmp 11), (some 70), none⟩,
  ⟨.bin .sub (.tmp 70) (.const (.int .i64 1)), (some 71), none⟩,
  ⟨.move (.tmp 71), (some 11), none⟩]
def b76_15 : ACode := (.seq (.seq (.ops o76_16) (.cond (.tmp 69) .skip (.exit 4))) (.seq (.block 5 (.seq (.seq (.draw d76_17) (.cond (.tmp 84) (.exit 4) .skip)) (.draw d76_18))) (.ops o76_19)))
def o76_20 : List AOper := [⟨.move (.tmp 2), (some 101), none⟩,
  ⟨.move (.tmp 9), (some 102), none⟩,
  ⟨.bin .sub (.tmp 101) (.tmp 102), (some 103), none⟩,
  ⟨.bin .geq (.tmp 103) (.const (.int .i64 2)), (some 104), none⟩]
def o76_21 : List AOper := [⟨.move (.tmp 9), (some 105), none⟩,
  ⟨.bin .add (.tmp 105) (.const (.int .i64 1)), (some 106), none⟩,
  ⟨.move (.tmp 106), (some 12), none⟩]
def o76_23 : List AOper := [⟨.move (.tmp 12), (some 107), none⟩,
  ⟨.move (.tmp 2), (some 108), none⟩,
  ⟨.bin .lss (.tmp 107) (.tmp 108), (some 109), none⟩]
def d76_24 : List DOper := [⟨⟨.move (.tmp 3), (some 112), none⟩, 0⟩,
  ⟨⟨.move (.tmp 0), (some 113), none⟩, 0⟩,
  ⟨⟨.move (.tmp 12), (some 114), none⟩, 0⟩,
  ⟨⟨.addrSl 1 (.tmp 113) (.tmp 114), (some 115), none⟩, 6⟩,
  ⟨⟨.load none (.tmp 115), (some 116), none⟩, 14⟩,
  ⟨⟨.move (.tmp 0), (some 117), none⟩, 0⟩,
  ⟨⟨.move (.tmp 12), (some 118), none⟩, 0⟩,
  ⟨⟨.bin .sub (.tmp 118) (.const (.int .i64 1)), (some 119), none⟩, 64⟩,
  ⟨⟨.addrSl 1 (.tmp 117) (.tmp 119), (some 120), none⟩, 224⟩,
  ⟨⟨.load none (.tmp 120), (some 121), none⟩, 480⟩,
  ⟨⟨.call (.tmp 112) [(.tmp 116), (.tmp 121)], (some 122), none⟩, 1023⟩,
  ⟨⟨.bin .lss (.tmp 122) (.const (.int .i64 0)), (some 123), none⟩, 2047⟩,
  ⟨⟨.un .not (.tmp 123), (some 124), none⟩, 4095⟩]
def d76_25 : List DOper := [⟨⟨.move (.tmp 0), (some 125), none⟩, 0⟩,
  ⟨⟨.move (.tmp 12), (some 126), none⟩, 0⟩,
  ⟨⟨.move (.tmp 0), (some 127), none⟩, 0⟩,
  ⟨⟨.move (.tmp 12), (some 128), none⟩, 0⟩,
  ⟨⟨.bin .sub (.tmp 128) (.const (.int .i64 1)), (some 129), none⟩, 8⟩,
  ⟨⟨.move (.tmp 0), (some 130), none⟩, 0⟩,
  ⟨⟨.move (.tmp 12), (some 131), none⟩, 0⟩,
  ⟨⟨.bin .sub (.tmp 131) (.const (.int .i64 1)), (some 132), none⟩, 64⟩,
  ⟨⟨.addrSl 1 (.tmp 130) (.tmp 132), (some 133), none⟩, 224⟩,
  ⟨⟨.load none (.tmp 133), (some 134), none⟩, 480⟩,
  ⟨⟨.move (.tmp 0), (some 135), none⟩, 0⟩,
  ⟨⟨.move (.tmp 12), (some 136), none⟩, 0⟩,
  ⟨⟨.addrSl 1 (.tmp 135) (.tmp 136), (some 137), none⟩, 3072⟩,
  ⟨⟨.load none (.tmp 137), (some 138), none⟩, 7168⟩,
  ⟨⟨.addrSl 1 (.tmp 125) (.tmp 126), (some 139), none⟩, 16355⟩,
  ⟨⟨.store 1 (.tmp 139) (.tmp 134), none, none⟩, 32739⟩,
  ⟨⟨.addrSl 1 (.tmp 127) (.tmp 129), (some 140), none⟩, 65535⟩,
  ⟨⟨.store 1 (.tmp 140) (.tmp 138), none, none⟩, 131071⟩]
def o76_26 : List AOper := [⟨.move (.tmp 12), (some 110), none⟩,
  ⟨.bin .add (.tmp 110) (.const (.int .i64 1)), (some 111), none⟩,
  ⟨.move (.tmp 111), (some 12), none⟩]
def b76_22 : ACode := (.seq (.seq (.ops o76_23) (.cond (.tmp 109) .skip (.exit 6))) (.seq (.block 7 (.seq (.seq (.draw d76_24) (.cond (.tmp 124) (.exit 6) .skip)) (.draw d76_25))) (.ops o76_26)))
def o76_27 : List AOper := [⟨.move (.tmp 10), (some 17), none⟩,
  ⟨.bin .add (.tmp 17) (.const (.int .i64 1)), (some 18), none⟩,
  ⟨.move (.tmp 18), (some 10), none⟩]
def b76_3 : ACode := (.seq (.seq (.ops o76_4) (.cond (.tmp 16) .skip (.exit 0))) (.seq (.block 1 (.seq (.block 2 (.loop b76_5)) (.seq (.seq (.ops o76_8) (.cond (.tmp 41) (.seq (.ops o76_9) .ret) .skip)) (.seq (.seq (.ops o76_10) (.cond (.tmp 45) (.seq (.ops o76_11) .ret) .skip)) (.seq (.draw d76_12) (.seq (.seq (.ops o76_13) (.cond (.tmp 65) (.seq (.ops o76_14) (.block 4 (.loop b76_15))) .skip)) (.seq (.ops o76_20) (.cond (.tmp 104) (.seq (.ops o76_21) (.block 6 (.loop b76_22))) .skip)))))))) (.ops o76_27)))
def o76_28 : List AOper := [⟨.move (.const (.bool false)), (some 8), none⟩]
def ir76 : AFn := ⟨141, [.tmp 8], (.seq (.ops o76_0) (.seq (.ops o76_1) (.seq (.seq (.ops o76_2) (.block 0 (.loop b76_3))) (.seq (.ops o76_28) .ret))))⟩
theorem ir76_eq : fnsOf Try.prog 76 = some ir76 := by kernel_rfl
def o77_0 : List AOper := [⟨.move (.const (.int .i64 0)), (some 10), none⟩]
def d77_1 : List DOper := [⟨⟨.move (.tmp 0), (some 13), none⟩, 0⟩,
  ⟨⟨.move (.tmp 1), (some 14), none⟩, 0⟩,
  ⟨⟨.move (.tmp 0), (some 15), none⟩, 0⟩,
  ⟨⟨.move (.tmp 3), (some 16), none⟩, 0⟩,
  ⟨⟨.move (.tmp 0), (some 17), none⟩, 0⟩,
  ⟨⟨.move (.tmp 3), (some 18), none⟩, 0⟩,
  ⟨⟨.addrSl 1 (.tmp 17) (.tmp 18), (some 19), none⟩, 48⟩,
  ⟨⟨.load none (.tmp 19), (some 20), none⟩, 112⟩,
  ⟨⟨.move (.tmp 0), (some 21), none⟩, 0⟩,
  ⟨⟨.move (.tmp 1), (some 22), none⟩, 0⟩,
  ⟨⟨.addrSl 1 (.tmp 21) (.tmp 22), (some 23), none⟩, 768⟩,
  ⟨⟨.load none (.tmp 23), (some 24), none⟩, 1792⟩,
  ⟨⟨.addrSl 1 (.tmp 13) (.tmp 14), (some 25), none⟩, 4083⟩,
  ⟨⟨.store 1 (.tmp 25) (.tmp 20), none, none⟩, 8179⟩,
  ⟨⟨.addrSl 1 (.tmp 15) (.tmp 16), (some 26), none⟩, 16383⟩,
  ⟨⟨.store 1 (.tmp 26) (.tmp 24), none, none⟩, 32767⟩]
def o77_2 : List AOper := [⟨.move (.tmp 1), (some 27), none⟩,
  ⟨.bin .add (.tmp 27) (.const (.int .i64 1)), (some 28), none⟩,
  ⟨.move (.tmp 2), (some 29), none⟩,
  ⟨.bin .sub (.tmp 29) (.const (.int .i64 1)), (some 30), none⟩,
  ⟨.move (.tmp 28), (some 11), none⟩,
  ⟨.move (.tmp 30), (some 12), none⟩]
def d77_5 : List DOper := [⟨⟨.move (.tmp 11), (some 31), none⟩, 0⟩,
  ⟨⟨.move (.tmp 12), (some 32), none⟩, 0⟩,
  ⟨⟨.bin .leq (.tmp 31) (.tmp 32), (some 33), none⟩, 3⟩,
  ⟨⟨.move (.tmp 33), (some 34), none⟩, 7⟩,
  ⟨⟨.move (.tmp 4), (some 35), (some (34, true))⟩, 15⟩,
  ⟨⟨.move (.tmp 0), (some 36), (some (34, true))⟩, 15⟩,
  ⟨⟨.move (.tmp 1), (some 37), (some (34, true))⟩, 15⟩,
  ⟨⟨.addrSl 1 (.tmp 36) (.tmp 37), (some 38), (some (34, true))⟩, 111⟩,
  ⟨⟨.load none (.tmp 38), (some 39), (some (34, true))⟩, 239⟩,
  ⟨⟨.move (.tmp 0), (some 40), (some (34, true))⟩, 15⟩,
  ⟨⟨.move (.tmp 11), (some 41), (some (34, true))⟩, 15⟩,
  ⟨⟨.addrSl 1 (.tmp 40) (.tmp 41), (some 42), (some (34, true))⟩, 1551⟩,
  ⟨⟨.load none (.tmp 42), (some 43), (some (34, true))⟩, 3599⟩,
  ⟨⟨.call (.tmp 35) [(.tmp 39), (.tmp 43)], (some 44), (some (34, true))⟩, 8191⟩,
  ⟨⟨.bin .lss (.tmp 44) (.const (.int .i64 0)), (some 45), (some (34, true))⟩, 16383⟩,
  ⟨⟨.un .not (.tmp 45), (some 46), (some (34, true))⟩, 32767⟩,
  ⟨⟨.pick (.tmp 34) (.tmp 46) (.const (.bool false)), (some 47), none⟩, 65535⟩]
def o77_6 : List AOper := [⟨.move (.tmp 11), (some 48), none⟩,
  ⟨.bin .add (.tmp 48) (.const (.int .i64 1)), (some 49), none⟩,
  ⟨.move (.tmp 49), (some 11), none⟩]
def b77_4 : ACode := (.seq (.seq (.draw d77_5) (.cond (.tmp 47) .skip (.exit 2))) (.block 3 (.ops o77_6)))
def d77_8 : List DOper := [⟨⟨.move (.tmp 11), (some 50), none⟩, 0⟩,
  ⟨⟨.move (.tmp 12), (some 51), none⟩, 0⟩,
  ⟨⟨.bin .leq (.tmp 50) (.tmp 51), (some 52), none⟩, 3⟩,
  ⟨⟨.move (.tmp 52), (some 53), none⟩, 7⟩,
  ⟨⟨.move (.tmp 4), (some 54), (some (53, true))⟩, 15⟩,
  ⟨⟨.move (.tmp 0), (some 55), (some (53, true))⟩, 15⟩,
  ⟨⟨.move (.tmp 1), (some 56), (some (53, true))⟩, 15⟩,
  ⟨⟨.addrSl 1 (.tmp 55) (.tmp 56), (some 57), (some (53, true))⟩, 111⟩,
  ⟨⟨.load none (.tmp 57), (some 58), (some (53, true))⟩, 239⟩,
  ⟨⟨.move (.tmp 0), (some 59), (some (53, true))⟩, 15⟩,
  ⟨⟨.move (.tmp 12), (some 60), (some (53, true))⟩, 15⟩,
  ⟨⟨.addrSl 1 (.tmp 59) (.tmp 60), (some 61), (some (53, true))⟩, 1551⟩,
  ⟨⟨.load none (.tmp 61), (some 62), (some (53, true))⟩, 3599⟩,
  ⟨⟨.call (.tmp 54) [(.tmp 58), (.tmp 62)], (some 63), (some (53, true))⟩, 8191⟩,
  ⟨⟨.bin .lss (.tmp 63) (.const (.int .i64 0)), (some 64), (some (53, true))⟩, 16383⟩,
  ⟨⟨.pick (.tmp 53) (.tmp 64) (.const (.bool false)), (some 65), none⟩, 32767⟩]
def o77_9 : List AOper := [⟨.move (.tmp 12), (some 66), none⟩,
  ⟨.bin .sub (.tmp 66) (.const (.int .i64 1)), (some 67), none⟩,
  ⟨.move (.tmp 67), (some 12), none⟩]
def b77_7 : ACode := (.seq (.seq (.draw d77_8) (.cond (.tmp 65) .skip (.exit 4))) (.block 5 (.ops o77_9)))
def o77_10 : List AOper := [⟨.move (.tmp 11), (some 68), none⟩,
  ⟨.move (.tmp 12), (some 69), none⟩,
  ⟨.bin .gtr (.tmp 68) (.tmp 69), (some 70), none⟩]
def d77_11 : List DOper := [⟨⟨.move (.tmp 0), (some 71), none⟩, 0⟩,
  ⟨⟨.move (.tmp 11), (some 72), none⟩, 0⟩,
  ⟨⟨.move (.tmp 0), (some 73), none⟩, 0⟩,
  ⟨⟨.move (.tmp 12), (some 74), none⟩, 0⟩,
  ⟨⟨.move (.tmp 0), (some 75), none⟩, 0⟩,
  ⟨⟨.move (.tmp 12), (some 76), none⟩, 0⟩,
  ⟨⟨.addrSl 1 (.tmp 75) (.tmp 76), (some 77), none⟩, 48⟩,
  ⟨⟨.load none (.tmp 77), (some 78), none⟩, 112⟩,
  ⟨⟨.move (.tmp 0), (some 79), none⟩, 0⟩,
  ⟨⟨.move (.tmp 11), (some 80), none⟩, 0⟩,
  ⟨⟨.addrSl 1 (.tmp 79) (.tmp 80), (some 81), none⟩, 768⟩,
  ⟨⟨.load none (.tmp 81), (some 82), none⟩, 1792⟩,
  ⟨⟨.addrSl 1 (.tmp 71) (.tmp 72), (some 83), none⟩, 4083⟩,
  ⟨⟨.store 1 (.tmp 83) (.tmp 78), none, none⟩, 8179⟩,
  ⟨⟨.addrSl 1 (.tmp 73) (.tmp 74), (some 84), none⟩, 16383⟩,
  ⟨⟨.store 1 (.tmp 84) (.tmp 82), none, none⟩, 32767⟩]
def o77_12 : List AOper := [⟨.move (.tmp 11), (some 85), none⟩,
  ⟨.bin .add (.tmp 85) (.const (.int .i64 1)), (some 86), none⟩,
  ⟨.move (.tmp 86), (some 11), none⟩]
def o77_13 : List AOper := [⟨.move (.tmp 12), (some 87), none⟩,
  ⟨.bin .sub (.tmp 87) (.const (.int .i64 1)), (some 88), none⟩,
  ⟨.move (.tmp 88), (some 12), none⟩]
def b77_3 : ACode := (.block 1 (.seq (.block 2 (.loop b77_4)) (.seq (.block 4 (.loop b77_7)) (.seq (.seq (.ops o77_10) (.cond (.tmp 70) (.exit 0) .skip)) (.seq (.draw d77_11) (.seq (.ops o77_12) (.ops o77_13)))))))
def o77_14 : List AOper := [⟨.move (.tmp 11), (some 89), none⟩,
  ⟨.move (.tmp 89), (some 10), none⟩]
def ir77 : AFn := ⟨90, [.tmp 10], (.seq (.ops o77_0) (.seq (.draw d77_1) (.seq (.ops o77_2) (.seq (.block 0 (.loop b77_3)) (.seq (.ops o77_14) .ret)))))⟩
theorem ir77_eq : fnsOf Try.prog 77 = some ir77 := by kernel_rfl
def o78_0 : List AOper := [⟨.move (.const (.int .i64 0)), (some 10), none⟩,
  ⟨.move (.const (.bool false)), (some 11), none⟩]
def d78_1 : List DOper := [⟨⟨.move (.tmp 0), (some 14), none⟩, 0⟩,
  ⟨⟨.move (.tmp 1), (some 15), none⟩, 0⟩,
  ⟨⟨.move (.tmp 0), (some 16), none⟩, 0⟩,
  ⟨⟨.move (.tmp 3), (some 17), none⟩, 0⟩,
  ⟨⟨.move (.tmp 0), (some 18), none⟩, 0⟩,
  ⟨⟨.move (.tmp 3), (some 19), none⟩, 0⟩,
  ⟨⟨.addrSl 1 (.tmp 18) (.tmp 19), (some 20), none⟩, 48⟩,
  ⟨⟨.load none (.tmp 20), (some 21), none⟩, 112⟩,
  ⟨⟨.move (.tmp 0), (some 22), none⟩, 0⟩,
  ⟨⟨.move (.tmp 1), (some 23), none⟩, 0⟩,
  ⟨⟨.addrSl 1 (.tmp 22) (.tmp 23), (some 24), none⟩, 768⟩,
  ⟨⟨.load none (.tmp 24), (some 25), none⟩, 1792⟩,
  ⟨⟨.addrSl 1 (.tmp 14) (.tmp 15), (some 26), none⟩, 4083⟩,
  ⟨⟨.store 1 (.tmp 26) (.tmp 21), none, none⟩, 8179⟩,
  ⟨⟨.addrSl 1 (.tmp 16) (.tmp 17), (some 27), none⟩, 16383⟩,
  ⟨⟨.store 1 (.tmp 27) (.tmp 25), none, none⟩, 32767⟩]
def o78_2 : List AOper := [⟨.move (.tmp 1), (some 28), none⟩,
  ⟨.bin .add (.tmp 28) (.const (.int .i64 1)), (some 29), none⟩,
  ⟨.move (.tmp 2), (some 30), none⟩,
  ⟨.bin .sub (.tmp 30) (.const (.int .i64 1)), (some 31), none⟩,
  ⟨.move (.tmp 29), (some 12), none⟩,
  ⟨.move (.tmp 31), (some 13), none⟩]
def d78_4 : List DOper := [⟨⟨.move (.tmp 12), (some 32), none⟩, 0⟩,
  ⟨⟨.move (.tmp 13), (some 33), none⟩, 0⟩,
  ⟨⟨.bin .leq (.tmp 32) (.tmp 33), (some 34), none⟩, 3⟩,
  ⟨⟨.move (.tmp 34), (some 35), none⟩, 7⟩,
  ⟨⟨.move (.tmp 4), (some 36), (some (35, true))⟩, 15⟩,
  ⟨⟨.move (.tmp 0), (some 37), (some (35, true))⟩, 15⟩,
  ⟨⟨.move (.tmp 12), (some 38), (some (35, true))⟩, 15⟩,
  ⟨⟨.addrSl 1 (.tmp 37) (.tmp 38), (some 39), (some (35, true))⟩, 111⟩,
  ⟨⟨.load none (.tmp 39), (some 40), (some (35, true))⟩, 239⟩,
  ⟨⟨.move (.tmp 0), (some 41), (some (35, true))⟩, 15⟩,
  ⟨⟨.move (.tmp 1), (some 42), (some (35, true))⟩, 15⟩,
  ⟨⟨.addrSl 1 (.tmp 41) (.tmp 42), (some 43), (some (35, true))⟩, 1551⟩,
  ⟨⟨.load none (.tmp 43), (some 44), (some (35, true))⟩, 3599⟩,
  ⟨⟨.call (.tmp 36) [(.tmp 40), (.tmp 44)], (some 45), (some (35, true))⟩, 8191⟩,
  ⟨⟨.bin .lss (.tmp 45) (.const (.int .i64 0)), (some 46), (some (35, true))⟩, 16383⟩,
  ⟨⟨.pick (.tmp 35) (.tmp 46) (.const (.bool false)), (some 47), none⟩, 32767⟩]
def o78_5 : List AOper := [⟨.move (.tmp 12), (some 48), none⟩,
  ⟨.bin .add (.tmp 48) (.const (.int .i64 1)), (some 49), none⟩,
  ⟨.move (.tmp 49), (some 12), none⟩]
def b78_3 : ACode := (.seq (.seq (.draw d78_4) (.cond (.tmp 47) .skip (.exit 0))) (.block 1 (.ops o78_5)))
def d78_7 : List DOper := [⟨⟨.move (.tmp 12), (some 50), none⟩, 0⟩,
  ⟨⟨.move (.tmp 13), (some 51), none⟩, 0⟩,
  ⟨⟨.bin .leq (.tmp 50) (.tmp 51), (some 52), none⟩, 3⟩,
  ⟨⟨.move (.tmp 52), (some 53), none⟩, 7⟩,
  ⟨⟨.move (.tmp 4), (some 54), (some (53, true))⟩, 15⟩,
  ⟨⟨.move (.tmp 0), (some 55), (some (53, true))⟩, 15⟩,
  ⟨⟨.move (.tmp 13), (some 56), (some (53, true))⟩, 15⟩,
  ⟨⟨.addrSl 1 (.tmp 55) (.tmp 56), (some 57), (some (53, true))⟩, 111⟩,
  ⟨⟨.load none (.tmp 57), (some 58), (some (53, true))⟩, 239⟩,
  ⟨⟨.move (.tmp 0), (some 59), (some (53, true))⟩, 15⟩,
  ⟨⟨.move (.tmp 1), (some 60), (some (53, true))⟩, 15⟩,
  ⟨⟨.addrSl 1 (.tmp 59) (.tmp 60), (some 61), (some (53, true))⟩, 1551⟩,
  ⟨⟨.load none (.tmp 61), (some 62), (some (53, true))⟩, 3599⟩,
  ⟨⟨.call (.tmp 54) [(.tmp 58), (.tmp 62)], (some 63), (some (53, true))⟩, 8191⟩,
  ⟨⟨.bin .lss (.tmp 63) (.const (.int .i64 0)), (some 64), (some (53, true))⟩, 16383⟩,
  ⟨⟨.un .not (.tmp 64), (some 65), (some (53, true))⟩, 32767⟩,
  ⟨⟨.pick (.tmp 53) (.tmp 65) (.const (.bool false)), (some 66), none⟩, 65535⟩]
def o78_8 : List AOper := [⟨.move (.tmp 13), (some 67), none⟩,
  ⟨.bin .sub (.tmp 67) (.const (.int .i64 1)), (some 68), none⟩,
  ⟨.move (.tmp 68), (some 13), none⟩]
def b78_6 : ACode := (.seq (.seq (.draw d78_7) (.cond (.tmp 66) .skip (.exit 2))) (.block 3 (.ops o78_8)))
def o78_9 : List AOper := [⟨.move (.tmp 12), (some 69), none⟩,
  ⟨.move (.tmp 13), (some 70), none⟩,
  ⟨.bin .gtr (.tmp 69) (.tmp 70), (some 71), none⟩]
def d78_10 : List DOper := [⟨⟨.move (.tmp 0), (some 72), none⟩, 0⟩,
  ⟨⟨.move (.tmp 13), (some 73), none⟩, 0⟩,
  ⟨⟨.move (.tmp 0), (some 74), none⟩, 0⟩,
  ⟨⟨.move (.tmp 1), (some 75), none⟩, 0⟩,
  ⟨⟨.move (.tmp 0), (some 76), none⟩, 0⟩,
  ⟨⟨.move (.tmp 1), (some 77), none⟩, 0⟩,
  ⟨⟨.addrSl 1 (.tmp 76) (.tmp 77), (some 78), none⟩, 48⟩,
  ⟨⟨.load none (.tmp 78), (some 79), none⟩, 112⟩,
  ⟨⟨.move (.tmp 0), (some 80), none⟩, 0⟩,
  ⟨⟨.move (.tmp 13), (some 81), none⟩, 0⟩,
  ⟨⟨.addrSl 1 (.tmp 80) (.tmp 81), (some 82), none⟩, 768⟩,
  ⟨⟨.load none (.tmp 82), (some 83), none⟩, 1792⟩,
  ⟨⟨.addrSl 1 (.tmp 72) (.tmp 73), (some 84), none⟩, 4083⟩,
  ⟨⟨.store 1 (.tmp 84) (.tmp 79), none, none⟩, 8179⟩,
  ⟨⟨.addrSl 1 (.tmp 74) (.tmp 75), (some 85), none⟩, 16383⟩,
  ⟨⟨.store 1 (.tmp 85) (.tmp 83), none, none⟩, 32767⟩]
def o78_11 : List AOper := [⟨.move (.tmp 13), (some 86), none⟩,
  ⟨.move (.tmp 86), (some 10), none⟩,
  ⟨.move (.const (.bool true)), (some 11), none⟩]
def d78_12 : List DOper := [⟨⟨.move (.tmp 0), (some 87), none⟩, 0⟩,
  ⟨⟨.move (.tmp 12), (some 88), none⟩, 0⟩,
  ⟨⟨.move (.tmp 0), (some 89), none⟩, 0⟩,
  ⟨⟨.move (.tmp 13), (some 90), none⟩, 0⟩,
  ⟨⟨.move (.tmp 0), (some 91), none⟩, 0⟩,
  ⟨⟨.move (.tmp 13), (some 92), none⟩, 0⟩,
  ⟨⟨.addrSl 1 (.tmp 91) (.tmp 92), (some 93), none⟩, 48⟩,
  ⟨⟨.load none (.tmp 93), (some 94), none⟩, 112⟩,
  ⟨⟨.move (.tmp 0), (some 95), none⟩, 0⟩,
  ⟨⟨.move (.tmp 12), (some 96), none⟩, 0⟩,
  ⟨⟨.addrSl 1 (.tmp 95) (.tmp 96), (some 97), none⟩, 768⟩,
  ⟨⟨.load none (.tmp 97), (some 98), none⟩, 1792⟩,
  ⟨⟨.addrSl 1 (.tmp 87) (.tmp 88), (some 99), none⟩, 4083⟩,
  ⟨⟨.store 1 (.tmp 99) (.tmp 94), none, none⟩, 8179⟩,
  ⟨⟨.addrSl 1 (.tmp 89) (.tmp 90), (some 100), none⟩, 16383⟩,
  ⟨⟨.store 1 (.tmp 100) (.tmp 98), none, none⟩, 32767⟩]
def o78_13 : List AOper := [⟨.move (.tmp 12), (some 101), none⟩,
  ⟨.bin .add (.tmp 101) (.const (.int .i64 1)), (some 102), none⟩,
  ⟨.move (.tmp 102), (some 12), none⟩]
def o78_14 : List AOper := [⟨.move (.tmp 13), (some 103), none⟩,
  ⟨.bin .sub (.tmp 103) (.const (.int .i64 1)), (some 104), none⟩,
  ⟨.move (.tmp 104), (some 13), none⟩]
def d78_17 : List DOper := [⟨⟨.move (.tmp 12), (some 105), none⟩, 0⟩,
  ⟨⟨.move (.tmp 13), (some 106), none⟩, 0⟩,
  ⟨⟨.bin .leq (.tmp 105) (.tmp 106), (some 107), none⟩, 3⟩,
  ⟨⟨.move (.tmp 107), (some 108), none⟩, 7⟩,
  ⟨⟨.move (.tmp 4), (some 109), (some (108, true))⟩, 15⟩,
  ⟨⟨.move (.tmp 0), (some 110), (some (108, true))⟩, 15⟩,
  ⟨⟨.move (.tmp 12), (some 111), (some (108, true))⟩, 15⟩,
  ⟨⟨.addrSl 1 (.tmp 110) (.tmp 111), (some 112), (some (108, true))⟩, 111⟩,
  ⟨⟨.load none (.tmp 112), (some 113), (some (108, true))⟩, 239⟩,
  ⟨⟨.move (.tmp 0), (some 114), (some (108, true))⟩, 15⟩,
  ⟨⟨.move (.tmp 1), (some 115), (some (108, true))⟩, 15⟩,
  ⟨⟨.addrSl 1 (.tmp 114) (.tmp 115), (some 116), (some (108, true))⟩, 1551⟩,
  ⟨⟨.load none (.tmp 116), (some 117), (some (108, true))⟩, 3599⟩,
  ⟨⟨.call (.tmp 109) [(.tmp 113), (.tmp 117)], (some 118), (some (108, true))⟩, 8191⟩,
  ⟨⟨.bin .lss (.tmp 118) (.const (.int .i64 0)), (some 119), (some (108, true))⟩, 16383⟩,
  ⟨⟨.pick (.tmp 108) (.tmp 119) (.const (.bool false)), (some 120), none⟩, 32767⟩]
def o78_18 : List AOper := [⟨.move (.tmp 12), (some 121), none⟩,
  ⟨.bin .add (.tmp 121) (.const (.int .i64 1)), (some 122), none⟩,
  ⟨.move (.tmp 122), (some 12), none⟩]
def b78_16 : ACode := (.seq (.seq (.draw d78_17) (.cond (.tmp 120) .skip (.exit 6))) (.block 7 (.ops o78_18)))
def d78_20 : List DOper := [⟨⟨.move (.tmp 12), (some 123), none⟩, 0⟩,
  ⟨⟨.move (.tmp 13), (some 124), none⟩, 0⟩,
  ⟨⟨.bin .leq (.tmp 123) (.tmp 124), (some 125), none⟩, 3⟩,
  ⟨⟨.move (.tmp 125), (some 126), none⟩, 7⟩,
  ⟨⟨.move (.tmp 4), (some 127), (some (126, true))⟩, 15⟩,
  ⟨⟨.move (.tmp 0), (some 128), (some (126, true))⟩, 15⟩,
  ⟨⟨.move (.tmp 13), (some 129), (some (126, true))⟩, 15⟩,
  ⟨⟨.addrSl 1 (.tmp 128) (.tmp 129), (some 130), (some (126, true))⟩, 111⟩,
  ⟨⟨.load none (.tmp 130), (some 131), (some (126, true))⟩, 239⟩,
  ⟨⟨.move (.tmp 0), (some 132), (some (126, true))⟩, 15⟩,
  ⟨⟨.move (.tmp 1), (some 133), (some (126, true))⟩, 15⟩,
  ⟨⟨.addrSl 1 (.tmp 132) (.tmp 133), (some 134), (some (126, true))⟩, 1551⟩,
  ⟨⟨.load none (.tmp 134), (some 135), (some (126, true))⟩, 3599⟩,
  ⟨⟨.call (.tmp 127) [(.tmp 131), (.tmp 135)], (some 136), (some (126, true))⟩, 8191⟩,
  ⟨⟨.bin .lss (.tmp 136) (.const (.int .i64 0)), (some 137), (some (126, true))⟩, 16383⟩,
  ⟨⟨.un .not (.tmp 137), (some 138), (some (126, true))⟩, 32767⟩,
  ⟨⟨.pick (.tmp 126) (.tmp 138) (.const (.bool false)), (some 139), none⟩, 65535⟩]
def o78_21 : List AOper := [⟨.move (.tmp 13), (some 140), none⟩,
  ⟨.bin .sub (.tmp 140) (.const (.int .i64 1)), (some 141), none⟩,
  ⟨.move (.tmp 141), (some 13), none⟩]
def b78_19 : ACode := (.seq (.seq (.draw d78_20) (.cond (.tmp 139) .skip (.exit 8))) (.block 9 (.ops o78_21)))
def o78_22 : List AOper := [⟨.move (.tmp 12), (some 142), none⟩,
  ⟨.move (.tmp 13), (some 143), none⟩,
  ⟨.bin .gtr (.tmp 142) (.tmp 143), (some 144), none⟩]
def d78_23 : List DOper := [⟨⟨.move (.tmp 0), (some 145), none⟩, 0⟩,
  ⟨⟨.move (.tmp 12), (some 146), none⟩, 0⟩,
  ⟨⟨.move (.tmp 0), (some 147), none⟩, 0⟩,
  ⟨⟨.move (.tmp 13), (some 148), none⟩, 0⟩,
  ⟨⟨.move (.tmp 0), (some 149), none⟩, 0⟩,
  ⟨⟨.move (.tmp 13), (some 150), none⟩, 0⟩,
  ⟨⟨.addrSl 1 (.tmp 149) (.tmp 150), (some 151), none⟩, 48⟩,
  ⟨⟨.load none (.tmp 151), (some 152), none⟩, 112⟩,
  ⟨⟨.move (.tmp 0), (some 153), none⟩, 0⟩,
  ⟨⟨.move (.tmp 12), (some 154), none⟩, 0⟩,
  ⟨⟨.addrSl 1 (.tmp 153) (.tmp 154), (some 155), none⟩, 768⟩,
  ⟨⟨.load none (.tmp 155), (some 156), none⟩, 1792⟩,
  ⟨⟨.addrSl 1 (.tmp 145) (.tmp 146), (some 157), none⟩, 4083⟩,
  ⟨⟨.store 1 (.tmp 157) (.tmp 152), none, none⟩, 8179⟩,
  ⟨⟨.addrSl 1 (.tmp 147) (.tmp 148), (some 158), none⟩, 16383⟩,
  ⟨⟨.store 1 (.tmp 158) (.tmp 156), none, none⟩, 32767⟩]
def o78_24 : List AOper := [⟨.move (.tmp 12), (some 159), none⟩,
  ⟨.bin .add (.tmp 159) (.const (.int .i64 1)), (some 160), none⟩,
  ⟨.move (.tmp 160), (some 12), none⟩]
def o78_25 : List AOper := [⟨.move (.tmp 13), (some 161), none⟩,
  ⟨.bin .sub (.tmp 161) (.const (.int .i64 1)), (some 162), none⟩,
  ⟨.move (.tmp 162), (some 13), none⟩]
def b78_15 : ACode := (.block 5 (.seq (.block 6 (.loop b78_16)) (.seq (.block 8 (.loop b78_19)) (.seq (.seq (.ops o78_22) (.cond (.tmp 144) (.exit 4) .skip)) (.seq (.draw d78_23) (.seq (.ops o78_24) (.ops o78_25)))))))
def d78_26 : List DOper := [⟨⟨.move (.tmp 0), (some 163), none⟩, 0⟩,
  ⟨⟨.move (.tmp 13), (some 164), none⟩, 0⟩,
  ⟨⟨.move (.tmp 0), (some 165), none⟩, 0⟩,
  ⟨⟨.move (.tmp 1), (some 166), none⟩, 0⟩,
  ⟨⟨.move (.tmp 0), (some 167), none⟩, 0⟩,
  ⟨⟨.move (.tmp 1), (some 168), none⟩, 0⟩,
  ⟨⟨.addrSl 1 (.tmp 167) (.tmp 168), (some 169), none⟩, 48⟩,
  ⟨⟨.load none (.tmp 169), (some 170), none⟩, 112⟩,
  ⟨⟨.move (.tmp 0), (some 171), none⟩, 0⟩,
  ⟨⟨.move (.tmp 13), (some 172), none⟩, 0⟩,
  ⟨⟨.addrSl 1 (.tmp 171) (.tmp 172), (some 173), none⟩, 768⟩,
  ⟨⟨.load none (.tmp 173), (some 174), none⟩, 1792⟩,
  ⟨⟨.addrSl 1 (.tmp 163) (.tmp 164), (some 175), none⟩, 4083⟩,
  ⟨⟨.store 1 (.tmp 175) (.tmp 170), none, none⟩, 8179⟩,
  ⟨⟨.addrSl 1 (.tmp 165) (.tmp 166), (some 176), none⟩, 16383⟩,
  ⟨⟨.store 1 (.tmp 176) (.tmp 174), none, none⟩, 32767⟩]
def o78_27 : List AOper := [⟨.move (.tmp 13), (some 177), none⟩,
  ⟨.move (.tmp 177), (some 10), none⟩,
  ⟨.move (.const (.bool false)), (some 11), none⟩]
def ir78 : AFn := ⟨178, [.tmp 10, .tmp 11], (.seq (.ops o78_0) (.seq (.draw d78_1) (.seq (.ops o78_2) (.seq (.block 0 (.loop b78_3)) (.seq (.block 2 (.loop b78_6)) (.seq (.seq (.ops o78_9) (.cond (.tmp 71) (.seq (.draw d78_10) (.seq (.ops o78_11) .ret)) .skip)) (.seq (.draw d78_12) (.seq (.ops o78_13) (.seq (.ops o78_14) (.seq (.block 4 (.loop b78_15)) (.seq (.draw d78_26) (.seq (.ops o78_27) .ret))))))))))))⟩
theorem ir78_eq : fnsOf Try.prog 78 = some ir78 := by kernel_rfl
def o84_0 : List AOper := [⟨.move (.tmp 1), (some 12), none⟩,
  ⟨.move (.tmp 12), (some 10), none⟩]
def o84_2 : List AOper := [⟨.move (.tmp 10), (some 13), none⟩,
  ⟨.bin .mul (.const (.int .i64 2)) (.tmp 13), (some 14), none⟩,
  ⟨.bin .add (.tmp 14) (.const (.int .i64 1)), (some 15), none⟩,
  ⟨.move (.tmp 15), (some 11), none⟩]
def o84_3 : List AOper := [⟨.move (.tmp 11), (some 16), none⟩,
  ⟨.move (.tmp 2), (some 17), none⟩,
  ⟨.bin .geq (.tmp 16) (.tmp 17), (some 18), none⟩]
def d84_4 : List DOper := [⟨⟨.move (.tmp 11), (some 19), none⟩, 0⟩,
  ⟨⟨.bin .add (.tmp 19) (.const (.int .i64 1)), (some 20), none⟩, 1⟩,
  ⟨⟨.move (.tmp 2), (some 21), none⟩, 0⟩,
  ⟨⟨.bin .lss (.tmp 20) (.tmp 21), (some 22), none⟩, 7⟩,
  ⟨⟨.move (.tmp 22), (some 23), none⟩, 15⟩,
  ⟨⟨.move (.tmp 4), (some 24), (some (23, true))⟩, 31⟩,
  ⟨⟨.move (.tmp 0), (some 25), (some (23, true))⟩, 31⟩,
  ⟨⟨.move (.tmp 3), (some 26), (some (23, true))⟩, 31⟩,
  ⟨⟨.move (.tmp 11), (some 27), (some (23, true))⟩, 31⟩,
  ⟨⟨.bin .add (.tmp 26) (.tmp 27), (some 28), (some (23, true))⟩, 415⟩,
  ⟨⟨.addrSl 1 (.tmp 25) (.tmp 28), (some 29), (some (23, true))⟩, 991⟩,
  ⟨⟨.load none (.tmp 29), (some 30), (some (23, true))⟩, 2015⟩,
  ⟨⟨.move (.tmp 0), (some 31), (some (23, true))⟩, 31⟩,
  ⟨⟨.move (.tmp 3), (some 32), (some (23, true))⟩, 31⟩,
  ⟨⟨.move (.tmp 11), (some 33), (some (23, true))⟩, 31⟩,
  ⟨⟨.bin .add (.tmp 32) (.tmp 33), (some 34), (some (23, true))⟩, 24607⟩,
  ⟨⟨.bin .add (.tmp 34) (.const (.int .i64 1)), (some 35), (some (23, true))⟩, 57375⟩,
  ⟨⟨.addrSl 1 (.tmp 31) (.tmp 35), (some 36), (some (23, true))⟩, 127007⟩,
  ⟨⟨.load none (.tmp 36), (some 37), (some (23, true))⟩, 258079⟩,
  ⟨⟨.call (.tmp 24) [(.tmp 30), (.tmp 37)], (some 38), (some (23, true))⟩, 524287⟩,
  ⟨⟨.bin .lss (.tmp 38) (.const (.int .i64 0)), (some 39), (some (23, true))⟩, 1048575⟩,
  ⟨⟨.pick (.tmp 23) (.tmp 39) (.const (.bool false)), (some 40), none⟩, 2097151⟩]
def o84_5 : List AOper := [⟨.move (.tmp 11), (some 41), none⟩,
  ⟨.bin .add (.tmp 41) (.const (.int .i64 1)), (some 42), none⟩,
  ⟨.move (.tmp 42), (some 11), none⟩]
def d84_6 : List DOper := [⟨⟨.move (.tmp 4), (some 43), none⟩, 0⟩,
  ⟨⟨.move (.tmp 0), (some 44), none⟩, 0⟩,
  ⟨⟨.move (.tmp 3), (some 45), none⟩, 0⟩,
  ⟨⟨.move (.tmp 10), (some 46), none⟩, 0⟩,
  ⟨⟨.bin .add (.tmp 45) (.tmp 46), (some 47), none⟩, 12⟩,
  ⟨⟨.addrSl 1 (.tmp 44) (.tmp 47), (some 48), none⟩, 30⟩,
  ⟨⟨.load none (.tmp 48), (some 49), none⟩, 62⟩,
  ⟨⟨.move (.tmp 0), (some 50), none⟩, 0⟩,
  ⟨⟨.move (.tmp 3), (some 51), none⟩, 0⟩,
  ⟨⟨.move (.tmp 11), (some 52), none⟩, 0⟩,
  ⟨⟨.bin .add (.tmp 51) (.tmp 52), (some 53), none⟩, 768⟩,
  ⟨⟨.addrSl 1 (.tmp 50) (.tmp 53), (some 54), none⟩, 1920⟩,
  ⟨⟨.load none (.tmp 54), (some 55), none⟩, 3968⟩,
  ⟨⟨.call (.tmp 43) [(.tmp 49), (.tmp 55)], (some 56), none⟩, 8191⟩,
  ⟨⟨.bin .lss (.tmp 56) (.const (.int .i64 0)), (some 57), none⟩, 16383⟩,
  ⟨⟨.un .not (.tmp 57), (some 58), none⟩, 32767⟩]
def d84_7 : List DOper := [⟨⟨.move (.tmp 0), (some 59), none⟩, 0⟩,
  ⟨⟨.move (.tmp 3), (some 60), none⟩, 0⟩,
  ⟨⟨.move (.tmp 10), (some 61), none⟩, 0⟩,
  ⟨⟨.bin .add (.tmp 60) (.tmp 61), (some 62), none⟩, 6⟩,
  ⟨⟨.move (.tmp 0), (some 63), none⟩, 0⟩,
  ⟨⟨.move (.tmp 3), (some 64), none⟩, 0⟩,
  ⟨⟨.move (.tmp 11), (some 65), none⟩, 0⟩,
  ⟨⟨.bin .add (.tmp 64) (.tmp 65), (some 66), none⟩, 96⟩,
  ⟨⟨.move (.tmp 0), (some 67), none⟩, 0⟩,
  ⟨⟨.move (.tmp 3), (some 68), none⟩, 0⟩,
  ⟨⟨.move (.tmp 11), (some 69), none⟩, 0⟩,
  ⟨⟨.bin .add (.tmp 68) (.tmp 69), (some 70), none⟩, 1536⟩,
  ⟨⟨.addrSl 1 (.tmp 67) (.tmp 70), (some 71), none⟩, 3840⟩,
  ⟨⟨.load none (.tmp 71), (some 72), none⟩, 7936⟩,
  ⟨⟨.move (.tmp 0), (some 73), none⟩, 0⟩,
  ⟨⟨.move (.tmp 3), (some 74), none⟩, 0⟩,
  ⟨⟨.move (.tmp 10), (some 75), none⟩, 0⟩,
  ⟨⟨.bin .add (.tmp 74) (.tmp 75), (some 76), none⟩, 98304⟩,
  ⟨⟨.addrSl 1 (.tmp 73) (.tmp 76), (some 77), none⟩, 245760⟩,
  ⟨⟨.load none (.tmp 77), (some 78), none⟩, 507904⟩,
  ⟨⟨.addrSl 1 (.tmp 59) (.tmp 62), (some 79), none⟩, 1048335⟩,
  ⟨⟨.store 1 (.tmp 79) (.tmp 72), none, none⟩, 2096911⟩,
  ⟨⟨.addrSl 1 (.tmp 63) (.tmp 66), (some 80), none⟩, 4194303⟩,
  ⟨⟨.store 1 (.tmp 80) (.tmp 78), none, none⟩, 8388607⟩]
def o84_8 : List AOper := [⟨.move (.tmp 11), (some 81), none⟩,
  ⟨.move (.tmp 81), (some 10), none⟩]
def b84_1 : ACode := (.block 1 (.seq (.ops o84_2) (.seq (.seq (.ops o84_3) (.cond (.tmp 18) (.exit 0) .skip)) (.seq (.seq (.draw d84_4) (.cond (.tmp 40) (.ops o84_5) .skip)) (.seq (.seq (.draw d84_6) (.cond (.tmp 58) .ret .skip)) (.seq (.draw d84_7) (.ops o84_8)))))))
def ir84 : AFn := ⟨82, [], (.seq (.ops o84_0) (.block 0 (.loop b84_1)))⟩
theorem ir84_eq : fnsOf Try.prog 84 = some ir84 := by kernel_rfl
def o85_0 : List AOper := [⟨.move (.const (.int .i64 0)), (some 8), none⟩]
def o85_1 : List AOper := [⟨.move (.tmp 0), (some 9), none⟩,
  ⟨.move (.tmp 1), (some 10), none⟩,
  ⟨.bin .sub (.tmp 10) (.const (.int .i64 1)), (some 11), none⟩,
  ⟨.move (.tmp 1), (some 12), none⟩,
  ⟨.move (.tmp 1), (some 13), none⟩,
  ⟨.bin .add (.tmp 13) (.const (.int .i64 1)), (some 14), none⟩,
  ⟨.move (.tmp 2), (some 15), none⟩,
  ⟨.move (.tmp 3), (some 16), none⟩,
  ⟨.call (.func 86) [(.tmp 9), (.tmp 11), (.tmp 12), (.tmp 14), (.tmp 15), (.tmp 16)], (some 17), none⟩,
  ⟨.move (.tmp 17), (some 8), none⟩]
def ir85 : AFn := ⟨18, [.tmp 8], (.seq (.ops o85_0) (.seq (.ops o85_1) .ret))⟩
theorem ir85_eq : fnsOf Try.prog 85 = some ir85 := by kernel_rfl
def o86_0 : List AOper := [⟨.move (.const (.int .i64 0)), (some 12), none⟩]
def o86_1 : List AOper := [⟨.move (.tmp 0), (some 14), none⟩,
  ⟨.move (.tmp 1), (some 15), none⟩,
  ⟨.move (.tmp 2), (some 16), none⟩,
  ⟨.move (.tmp 4), (some 17), none⟩,
  ⟨.move (.tmp 5), (some 18), none⟩,
  ⟨.call (.func 88) [(.tmp 14), (.tmp 15), (.tmp 16), (.tmp 17), (.tmp 18)], (some 19), none⟩,
  ⟨.move (.tmp 19), (some 13), none⟩,
  ⟨.extract (.tmp 13) 0, (some 20), none⟩,
  ⟨.extract (.tmp 13) 1, (some 21), none⟩,
  ⟨.move (.tmp 20), (some 1), none⟩,
  ⟨.move (.tmp 21), (some 2), none⟩]
def o86_2 : List AOper := [⟨.move (.tmp 0), (some 23), none⟩,
  ⟨.move (.tmp 2), (some 24), none⟩,
  ⟨.move (.tmp 3), (some 25), none⟩,
  ⟨.move (.tmp 4), (some 26), none⟩,
  ⟨.move (.tmp 5), (some 27), none⟩,
  ⟨.call (.func 88) [(.tmp 23), (.tmp 24), (.tmp 25), (.tmp 26), (.tmp 27)], (some 28), none⟩,
  ⟨.move (.tmp 28), (some 22), none⟩,
  ⟨.extract (.tmp 22) 0, (some 29), none⟩,
  ⟨.extract (.tmp 22) 1, (some 30), none⟩,
  ⟨.move (.tmp 29), (some 2), none⟩,
  ⟨.move (.tmp 30), (some 3), none⟩]
def o86_3 : List AOper := [⟨.move (.tmp 0), (some 32), none⟩,
  ⟨.move (.tmp 1), (some 33), none⟩,
  ⟨.move (.tmp 2), (some 34), none⟩,
  ⟨.move (.tmp 4), (some 35), none⟩,
  ⟨.move (.tmp 5), (some 36), none⟩,
  ⟨.call (.func 88) [(.tmp 32), (.tmp 33), (.tmp 34), (.tmp 35), (.tmp 36)], (some 37), none⟩,
  ⟨.move (.tmp 37), (some 31), none⟩,
  ⟨.extract (.tmp 31) 0, (some 38), none⟩,
  ⟨.extract (.tmp 31) 1, (some 39), none⟩,
  ⟨.move (.tmp 38), (some 1), none⟩,
  ⟨.move (.tmp 39), (some 2), none⟩]
def o86_4 : List AOper := [⟨.move (.tmp 2), (some 40), none⟩,
  ⟨.move (.tmp 40), (some 12), none⟩]
def ir86 : AFn := ⟨41, [.tmp 12], (.seq (.ops o86_0) (.seq (.ops o86_1) (.seq (.ops o86_2) (.seq (.ops o86_3) (.seq (.ops o86_4) .ret)))))⟩
theorem ir86_eq : fnsOf Try.prog 86 = some ir86 := by kernel_rfl
def o88_0 : List AOper := [⟨.move (.const (.int .i64 0)), (some 10), none⟩,
  ⟨.move (.const (.int .i64 0)), (some 11), none⟩]
def d88_1 : List DOper := [⟨⟨.move (.tmp 4), (some 12), none⟩, 0⟩,
  ⟨⟨.move (.tmp 0), (some 13), none⟩, 0⟩,
  ⟨⟨.move (.tmp 2), (some 14), none⟩, 0⟩,
  ⟨⟨.addrSl 1 (.tmp 13) (.tmp 14), (some 15), none⟩, 6⟩,
  ⟨⟨.load none (.tmp 15), (some 16), none⟩, 14⟩,
  ⟨⟨.move (.tmp 0), (some 17), none⟩, 0⟩,
  ⟨⟨.move (.tmp 1), (some 18), none⟩, 0⟩,
  ⟨⟨.addrSl 1 (.tmp 17) (.tmp 18), (some 19), none⟩, 96⟩,
  ⟨⟨.load none (.tmp 19), (some 20), none⟩, 224⟩,
  ⟨⟨.call (.tmp 12) [(.tmp 16), (.tmp 20)], (some 21), none⟩, 511⟩,
  ⟨⟨.bin .lss (.tmp 21) (.const (.int .i64 0)), (some 22), none⟩, 1023⟩]
def o88_2 : List AOper := [⟨.move (.tmp 3), (some 23), none⟩,
  ⟨.nilCheck (.tmp 23), (some 24), none⟩,
  ⟨.load none (.tmp 24), (some 25), none⟩,
  ⟨.bin .add (.tmp 25) (.const (.int .i64 1)), (some 26), none⟩,
  ⟨.nilCheck (.tmp 23), (some 27), none⟩,
  ⟨.store 1 (.tmp 27) (.tmp 26), none, none⟩]
def o88_3 : List AOper := [⟨.move (.tmp 2), (some 28), none⟩,
  ⟨.move (.tmp 1), (some 29), none⟩,
  ⟨.move (.tmp 28), (some 10), none⟩,
  ⟨.move (.tmp 29), (some 11), none⟩]
def o88_4 : List AOper := [⟨.move (.tmp 1), (some 30), none⟩,
  ⟨.move (.tmp 2), (some 31), none⟩,
  ⟨.move (.tmp 30), (some 10), none⟩,
  ⟨.move (.tmp 31), (some 11), none⟩]
def ir88 : AFn := ⟨32, [.tmp 10, .tmp 11], (.seq (.ops o88_0) (.seq (.seq (.draw d88_1) (.cond (.tmp 22) (.seq (.ops o88_2) (.seq (.ops o88_3) .ret)) .skip)) (.seq (.ops o88_4) .ret)))⟩
theorem ir88_eq : fnsOf Try.prog 88 = some ir88 := by kernel_rfl
end Go.Proofs.Ytpphomoijlilfaa
