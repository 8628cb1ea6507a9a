/- The code of the functions, as the machine has it. -/
import Derived.Test.YtkfcejhebepdkaaRows
import Derived.Test.YtkfcejhebepdkaaVam25
import Derived.KernelRfl
namespace Go.Proofs.Ytkfcejhebepdkaa
open Go Go.Vam
set_option maxRecDepth 100000
/-! F3 lookout/lookoutlaw27.TapeReads -/
def o3_0 : List AOper := [⟨.move (.const (.bool false)), (some 4), none⟩]
def o3_1 : List AOper := [⟨.move (.tmp 0), (some 19), none⟩,
  ⟨.call (.func 8) [(.tmp 19)], (some 20), none⟩]
def o3_2 : List AOper := [⟨.call (.func 9) [], (some 21), none⟩,
  ⟨.move (.tmp 21), (some 4), none⟩]
def o3_3 : List AOper := [⟨.call (.func 10) [], (some 22), none⟩,
  ⟨.call (.func 10) [], (some 23), none⟩,
  ⟨.buildSlice 26 1 [(.pointer none)] 2 [(0, (.tmp 22)), (1, (.tmp 23))], (some 24), none⟩,
  ⟨.move (.tmp 24), (some 5), none⟩]
def o3_4 : List AOper := [⟨.call (.func 11) [], (some 25), none⟩,
  ⟨.call (.func 11) [], (some 26), none⟩,
  ⟨.buildSlice 29 1 [(.pointer none)] 2 [(0, (.tmp 25)), (1, (.tmp 26))], (some 27), none⟩,
  ⟨.move (.tmp 27), (some 6), none⟩]
def o3_5 : List AOper := [⟨.move (.tmp 5), (some 28), none⟩,
  ⟨.addrSl 1 (.tmp 28) (.const (.int .i64 0)), (some 29), none⟩,
  ⟨.load none (.tmp 29), (some 30), none⟩,
  ⟨.eq false .ptr (.tmp 30) (.const (.pointer none)), (some 31), none⟩,
  ⟨.move (.tmp 31), (some 32), none⟩,
  ⟨.move (.tmp 5), (some 33), (some (32, false))⟩,
  ⟨.addrSl 1 (.tmp 33) (.const (.int .i64 1)), (some 34), (some (32, false))⟩,
  ⟨.load none (.tmp 34), (some 35), (some (32, false))⟩,
  ⟨.eq false .ptr (.tmp 35) (.const (.pointer none)), (some 36), (some (32, false))⟩,
  ⟨.pick (.tmp 32) (.const (.bool true)) (.tmp 36), (some 37), none⟩]
def o3_6 : List AOper := [⟨.move (.const (.bool false)), (some 4), none⟩]
def o3_7 : List AOper := [⟨.move (.const (.int .i64 0)), (some 7), none⟩]
def o3_9 : List AOper := [⟨.move (.tmp 7), (some 38), none⟩,
  ⟨.move (.tmp 0), (some 39), none⟩,
  ⟨.bu .len [(.tmp 39)], (some 40), none⟩,
  ⟨.bin .lss (.tmp 38) (.tmp 40), (some 41), none⟩]
def o3_10 : List AOper := [⟨.move (.const (.int .i64 0)), (some 8), none⟩]
def o3_11 : List AOper := [⟨.move (.tmp 7), (some 44), none⟩,
  ⟨.move (.tmp 1), (some 45), none⟩,
  ⟨.bu .len [(.tmp 45)], (some 46), none⟩,
  ⟨.bin .lss (.tmp 44) (.tmp 46), (some 47), none⟩,
  ⟨.move (.tmp 47), (some 48), none⟩,
  ⟨.move (.tmp 1), (some 49), (some (48, true))⟩,
  ⟨.move (.tmp 7), (some 50), (some (48, true))⟩,
  ⟨.addrSl 1 (.tmp 49) (.tmp 50), (some 51), (some (48, true))⟩,
  ⟨.load none (.tmp 51), (some 52), (some (48, true))⟩,
  ⟨.pick (.tmp 48) (.tmp 52) (.const (.bool false)), (some 53), none⟩]
def o3_12 : List AOper := [⟨.move (.const (.int .i64 1)), (some 8), none⟩]
def o3_13 : List AOper := [⟨.buildSlice 5 1 [(.int .u8 0)] 0 [], (some 54), none⟩,
  ⟨.move (.tmp 0), (some 55), none⟩,
  ⟨.move (.tmp 7), (some 56), none⟩,
  ⟨.addrSl 1 (.tmp 55) (.tmp 56), (some 57), none⟩,
  ⟨.load none (.tmp 57), (some 58), none⟩,
  ⟨.append 5 1 1 [(.int .u8 0)] (.tmp 54) (.tmp 58), (some 59), none⟩,
  ⟨.move (.tmp 59), (some 9), none⟩]
def o3_14 : List AOper := [⟨.move (.tmp 5), (some 61), none⟩,
  ⟨.move (.tmp 8), (some 62), none⟩,
  ⟨.addrSl 1 (.tmp 61) (.tmp 62), (some 63), none⟩,
  ⟨.load none (.tmp 63), (some 64), none⟩,
  ⟨.move (.tmp 9), (some 65), none⟩,
  ⟨.call (.func 12) [(.tmp 64), (.tmp 65)], (some 66), none⟩,
  ⟨.move (.tmp 66), (some 60), none⟩,
  ⟨.extract (.tmp 60) 0, (some 67), none⟩,
  ⟨.extract (.tmp 60) 1, (some 68), none⟩,
  ⟨.move (.tmp 67), (some 10), none⟩,
  ⟨.move (.tmp 68), (some 11), none⟩]
def d3_15 : List DOper := [⟨⟨.move (.tmp 6), (some 70), none⟩, 0⟩,
  ⟨⟨.move (.tmp 8), (some 71), none⟩, 0⟩,
  ⟨⟨.addrSl 1 (.tmp 70) (.tmp 71), (some 72), none⟩, 3⟩,
  ⟨⟨.load none (.tmp 72), (some 73), none⟩, 7⟩,
  ⟨⟨.move (.tmp 0), (some 74), none⟩, 0⟩,
  ⟨⟨.move (.tmp 7), (some 75), none⟩, 0⟩,
  ⟨⟨.addrSl 1 (.tmp 74) (.tmp 75), (some 76), none⟩, 48⟩,
  ⟨⟨.load none (.tmp 76), (some 77), none⟩, 112⟩,
  ⟨⟨.call (.func 13) [(.tmp 73), (.tmp 77)], (some 78), none⟩, 255⟩,
  ⟨⟨.move (.tmp 78), (some 69), none⟩, 511⟩,
  ⟨⟨.extract (.tmp 69) 0, (some 79), none⟩, 1023⟩,
  ⟨⟨.extract (.tmp 69) 1, (some 80), none⟩, 1023⟩,
  ⟨⟨.move (.tmp 79), (some 12), none⟩, 2047⟩,
  ⟨⟨.move (.tmp 80), (some 13), none⟩, 8191⟩]
def d3_16 : List DOper := [⟨⟨.move (.tmp 11), (some 81), none⟩, 0⟩,
  ⟨⟨.move (.tmp 13), (some 82), none⟩, 0⟩,
  ⟨⟨.bin .neq (.tmp 81) (.tmp 82), (some 83), none⟩, 3⟩,
  ⟨⟨.move (.tmp 83), (some 84), none⟩, 7⟩,
  ⟨⟨.move (.tmp 10), (some 85), (some (84, false))⟩, 15⟩,
  ⟨⟨.move (.tmp 12), (some 86), (some (84, false))⟩, 15⟩,
  ⟨⟨.call (.func 14) [(.tmp 85), (.tmp 86)], (some 87), (some (84, false))⟩, 63⟩,
  ⟨⟨.un .not (.tmp 87), (some 88), (some (84, false))⟩, 127⟩,
  ⟨⟨.pick (.tmp 84) (.const (.bool true)) (.tmp 88), (some 89), none⟩, 255⟩,
  ⟨⟨.move (.tmp 89), (some 90), none⟩, 511⟩,
  ⟨⟨.move (.tmp 9), (some 91), (some (90, false))⟩, 1023⟩,
  ⟨⟨.text (.tmp 91), (some 92), (some (90, false))⟩, 2047⟩,
  ⟨⟨.move (.tmp 0), (some 93), (some (90, false))⟩, 1023⟩,
  ⟨⟨.move (.tmp 7), (some 94), (some (90, false))⟩, 1023⟩,
  ⟨⟨.addrSl 1 (.tmp 93) (.tmp 94), (some 95), (some (90, false))⟩, 13311⟩,
  ⟨⟨.load none (.tmp 95), (some 96), (some (90, false))⟩, 29695⟩,
  ⟨⟨.text (.tmp 96), (some 97), (some (90, false))⟩, 62463⟩,
  ⟨⟨.bin .neq (.tmp 92) (.tmp 97), (some 98), (some (90, false))⟩, 131071⟩,
  ⟨⟨.pick (.tmp 90) (.const (.bool true)) (.tmp 98), (some 99), none⟩, 262143⟩]
def o3_17 : List AOper := [⟨.move (.const (.bool false)), (some 4), none⟩]
def o3_18 : List AOper := [⟨.move (.const (.int .i64 0)), (some 14), none⟩]
def o3_20 : List AOper := [⟨.move (.tmp 14), (some 100), none⟩,
  ⟨.move (.tmp 9), (some 101), none⟩,
  ⟨.bu .len [(.tmp 101)], (some 102), none⟩,
  ⟨.bin .lss (.tmp 100) (.tmp 102), (some 103), none⟩]
def o3_21 : List AOper := [⟨.move (.tmp 9), (some 106), none⟩,
  ⟨.move (.tmp 14), (some 107), none⟩,
  ⟨.addrSl 1 (.tmp 106) (.tmp 107), (some 108), none⟩,
  ⟨.store 1 (.tmp 108) (.const (.int .u8 85)), none, none⟩]
def o3_22 : List AOper := [⟨.move (.tmp 14), (some 104), none⟩,
  ⟨.bin .add (.tmp 104) (.const (.int .i64 1)), (some 105), none⟩,
  ⟨.move (.tmp 105), (some 14), none⟩]
def b3_19 : ACode := (.seq (.seq (.ops o3_20) (.cond (.tmp 103) .skip (.exit 2))) (.seq (.block 3 (.ops o3_21)) (.ops o3_22)))
def o3_23 : List AOper := [⟨.move (.const (.int .i64 0)), (some 15), none⟩]
def o3_25 : List AOper := [⟨.move (.tmp 15), (some 109), none⟩,
  ⟨.move (.tmp 10), (some 110), none⟩,
  ⟨.bu .len [(.tmp 110)], (some 111), none⟩,
  ⟨.bin .lss (.tmp 109) (.tmp 111), (some 112), none⟩]
def o3_26 : List AOper := [⟨.move (.tmp 10), (some 115), none⟩,
  ⟨.move (.tmp 15), (some 116), none⟩,
  ⟨.addrSl 4 (.tmp 115) (.tmp 116), (some 117), none⟩,
  ⟨.load (some 4) (.tmp 117), (some 118), none⟩,
  ⟨.call (.func 15) [(.tmp 118)], (some 119), none⟩]
def o3_27 : List AOper := [⟨.move (.tmp 15), (some 113), none⟩,
  ⟨.bin .add (.tmp 113) (.const (.int .i64 1)), (some 114), none⟩,
  ⟨.move (.tmp 114), (some 15), none⟩]
def b3_24 : ACode := (.seq (.seq (.ops o3_25) (.cond (.tmp 112) .skip (.exit 4))) (.seq (.block 5 (.ops o3_26)) (.ops o3_27)))
def d3_28 : List DOper := [⟨⟨.move (.tmp 5), (some 120), none⟩, 0⟩,
  ⟨⟨.addrSl 1 (.tmp 120) (.const (.int .i64 0)), (some 121), none⟩, 1⟩,
  ⟨⟨.load none (.tmp 121), (some 122), none⟩, 3⟩,
  ⟨⟨.call (.func 16) [(.tmp 122)], (some 123), none⟩, 7⟩,
  ⟨⟨.move (.tmp 6), (some 124), none⟩, 0⟩,
  ⟨⟨.addrSl 1 (.tmp 124) (.const (.int .i64 0)), (some 125), none⟩, 16⟩,
  ⟨⟨.load none (.tmp 125), (some 126), none⟩, 48⟩,
  ⟨⟨.call (.func 17) [(.tmp 126)], (some 127), none⟩, 127⟩,
  ⟨⟨.bin .neq (.tmp 123) (.tmp 127), (some 128), none⟩, 255⟩,
  ⟨⟨.move (.tmp 128), (some 129), none⟩, 511⟩,
  ⟨⟨.move (.tmp 5), (some 130), (some (129, false))⟩, 1023⟩,
  ⟨⟨.addrSl 1 (.tmp 130) (.const (.int .i64 1)), (some 131), (some (129, false))⟩, 2047⟩,
  ⟨⟨.load none (.tmp 131), (some 132), (some (129, false))⟩, 4095⟩,
  ⟨⟨.call (.func 16) [(.tmp 132)], (some 133), (some (129, false))⟩, 8191⟩,
  ⟨⟨.move (.tmp 6), (some 134), (some (129, false))⟩, 1023⟩,
  ⟨⟨.addrSl 1 (.tmp 134) (.const (.int .i64 1)), (some 135), (some (129, false))⟩, 17407⟩,
  ⟨⟨.load none (.tmp 135), (some 136), (some (129, false))⟩, 50175⟩,
  ⟨⟨.call (.func 17) [(.tmp 136)], (some 137), (some (129, false))⟩, 131071⟩,
  ⟨⟨.bin .neq (.tmp 133) (.tmp 137), (some 138), (some (129, false))⟩, 262143⟩,
  ⟨⟨.pick (.tmp 129) (.const (.bool true)) (.tmp 138), (some 139), none⟩, 524287⟩]
def o3_29 : List AOper := [⟨.move (.const (.bool false)), (some 4), none⟩]
def o3_30 : List AOper := [⟨.move (.tmp 7), (some 42), none⟩,
  ⟨.bin .add (.tmp 42) (.const (.int .i64 1)), (some 43), none⟩,
  ⟨.move (.tmp 43), (some 7), none⟩]
def b3_8 : ACode := (.seq (.seq (.ops o3_9) (.cond (.tmp 41) .skip (.exit 0))) (.seq (.block 1 (.seq (.ops o3_10) (.seq (.seq (.ops o3_11) (.cond (.tmp 53) (.ops o3_12) .skip)) (.seq (.ops o3_13) (.seq (.ops o3_14) (.seq (.draw d3_15) (.seq (.seq (.draw d3_16) (.cond (.tmp 99) (.seq (.ops o3_17) .ret) .skip)) (.seq (.seq (.ops o3_18) (.block 2 (.loop b3_19))) (.seq (.seq (.ops o3_23) (.block 4 (.loop b3_24))) (.seq (.draw d3_28) (.cond (.tmp 139) (.seq (.ops o3_29) .ret) .skip))))))))))) (.ops o3_30)))
def o3_31 : List AOper := [⟨.move (.const (.pointer none)), (some 16), none⟩]
def o3_32 : List AOper := [⟨.move (.tmp 16), (some 141), none⟩,
  ⟨.buildSlice 5 1 [(.int .u8 0)] 1 [(0, (.const (.int .u8 76)))], (some 142), none⟩,
  ⟨.call (.func 12) [(.tmp 141), (.tmp 142)], (some 143), none⟩,
  ⟨.move (.tmp 143), (some 140), none⟩,
  ⟨.extract (.tmp 140) 0, (some 144), none⟩,
  ⟨.extract (.tmp 140) 1, (some 145), none⟩,
  ⟨.move (.tmp 144), (some 17), none⟩,
  ⟨.move (.tmp 145), (some 18), none⟩]
def o3_33 : List AOper := [⟨.move (.tmp 17), (some 146), none⟩,
  ⟨.bu .len [(.tmp 146)], (some 147), none⟩,
  ⟨.bin .eql (.tmp 147) (.const (.int .i64 0)), (some 148), none⟩,
  ⟨.move (.tmp 148), (some 149), none⟩,
  ⟨.move (.tmp 18), (some 150), (some (149, true))⟩,
  ⟨.bin .eql (.tmp 150) (.const (.int .i64 1)), (some 151), (some (149, true))⟩,
  ⟨.pick (.tmp 149) (.tmp 151) (.const (.bool false)), (some 152), none⟩,
  ⟨.move (.tmp 152), (some 153), none⟩,
  ⟨.move (.tmp 16), (some 154), (some (153, true))⟩,
  ⟨.call (.func 16) [(.tmp 154)], (some 155), (some (153, true))⟩,
  ⟨.bin .eql (.tmp 155) (.const (.int .i64 0)), (some 156), (some (153, true))⟩,
  ⟨.pick (.tmp 153) (.tmp 156) (.const (.bool false)), (some 157), none⟩,
  ⟨.move (.tmp 157), (some 158), none⟩,
  ⟨.call (.func 9) [], (some 159), (some (158, true))⟩,
  ⟨.pick (.tmp 158) (.tmp 159) (.const (.bool false)), (some 160), none⟩,
  ⟨.move (.tmp 160), (some 4), none⟩]
def ir3 : AFn := ⟨161, [.tmp 4], (.seq (.ops o3_0) (.seq (.seq (.ops o3_1) (.cond (.tmp 20) (.seq (.ops o3_2) .ret) .skip)) (.seq (.ops o3_3) (.seq (.ops o3_4) (.seq (.seq (.ops o3_5) (.cond (.tmp 37) (.seq (.ops o3_6) .ret) .skip)) (.seq (.seq (.ops o3_7) (.block 0 (.loop b3_8))) (.seq (.ops o3_31) (.seq (.ops o3_32) (.seq (.ops o3_33) .ret)))))))))⟩
theorem ir3_eq : fnsOf Try.prog 3 = some ir3 := by kernel_rfl

/-! F4 lookout/lookoutlaw27.TapeBack -/
def o4_0 : List AOper := [⟨.move (.const (.bool false)), (some 4), none⟩]
def o4_1 : List AOper := [⟨.move (.const (.slice none 0 0)), (some 5), none⟩]
def o4_2 : List AOper := [⟨.move (.const (.slice none 0 0)), (some 6), none⟩]
def o4_3 : List AOper := [⟨.move (.const (.int .i64 0)), (some 7), none⟩]
def o4_5 : List AOper := [⟨.move (.tmp 7), (some 19), none⟩,
  ⟨.move (.tmp 0), (some 20), none⟩,
  ⟨.bu .len [(.tmp 20)], (some 21), none⟩,
  ⟨.bin .lss (.tmp 19) (.tmp 21), (some 22), none⟩,
  ⟨.move (.tmp 22), (some 23), none⟩,
  ⟨.move (.tmp 7), (some 24), (some (23, true))⟩,
  ⟨.bin .lss (.tmp 24) (.const (.int .i64 30)), (some 25), (some (23, true))⟩,
  ⟨.pick (.tmp 23) (.tmp 25) (.const (.bool false)), (some 26), none⟩]
def o4_6 : List AOper := [⟨.move (.tmp 0), (some 30), none⟩,
  ⟨.move (.tmp 7), (some 31), none⟩,
  ⟨.addrSl 4 (.tmp 30) (.tmp 31), (some 32), none⟩,
  ⟨.load (some 4) (.tmp 32), (some 33), none⟩,
  ⟨.call (.func 18) [(.tmp 33)], (some 34), none⟩,
  ⟨.move (.tmp 34), (some 29), none⟩,
  ⟨.extract (.tmp 29) 0, (some 35), none⟩,
  ⟨.extract (.tmp 29) 1, (some 36), none⟩,
  ⟨.move (.tmp 35), (some 8), none⟩,
  ⟨.move (.tmp 36), (some 9), none⟩]
def o4_7 : List AOper := [⟨.move (.tmp 9), (some 37), none⟩,
  ⟨.bin .eql (.tmp 37) (.const (.int .i64 0)), (some 38), none⟩,
  ⟨.move (.tmp 38), (some 39), none⟩,
  ⟨.move (.tmp 5), (some 40), (some (39, true))⟩,
  ⟨.bu .len [(.tmp 40)], (some 41), (some (39, true))⟩,
  ⟨.move (.tmp 8), (some 42), (some (39, true))⟩,
  ⟨.bu .len [(.tmp 42)], (some 43), (some (39, true))⟩,
  ⟨.bin .add (.tmp 41) (.tmp 43), (some 44), (some (39, true))⟩,
  ⟨.bin .lss (.tmp 44) (.const (.int .i64 262144)), (some 45), (some (39, true))⟩,
  ⟨.pick (.tmp 39) (.tmp 45) (.const (.bool false)), (some 46), none⟩]
def o4_8 : List AOper := [⟨.move (.tmp 5), (some 47), none⟩,
  ⟨.move (.tmp 8), (some 48), none⟩,
  ⟨.append 5 1 1 [(.int .u8 0)] (.tmp 47) (.tmp 48), (some 49), none⟩,
  ⟨.move (.tmp 49), (some 5), none⟩]
def o4_9 : List AOper := [⟨.move (.tmp 6), (some 50), none⟩,
  ⟨.move (.tmp 0), (some 51), none⟩,
  ⟨.move (.tmp 7), (some 52), none⟩,
  ⟨.addrSl 4 (.tmp 51) (.tmp 52), (some 53), none⟩,
  ⟨.load (some 4) (.tmp 53), (some 54), none⟩,
  ⟨.buildSlice 42 4 [(.float .f64 0), (.float .f64 0), (.slice none 0 0), (.slice none 0 0)] 1 [(0, (.tmp 54))], (some 55), none⟩,
  ⟨.append 42 64 4 [(.float .f64 0), (.float .f64 0), (.slice none 0 0), (.slice none 0 0)] (.tmp 50) (.tmp 55), (some 56), none⟩,
  ⟨.move (.tmp 56), (some 6), none⟩]
def o4_10 : List AOper := [⟨.move (.tmp 7), (some 27), none⟩,
  ⟨.bin .add (.tmp 27) (.const (.int .i64 1)), (some 28), none⟩,
  ⟨.move (.tmp 28), (some 7), none⟩]
def b4_4 : ACode := (.seq (.seq (.ops o4_5) (.cond (.tmp 26) .skip (.exit 0))) (.seq (.block 1 (.seq (.ops o4_6) (.seq (.ops o4_7) (.cond (.tmp 46) (.seq (.ops o4_8) (.ops o4_9)) .skip)))) (.ops o4_10)))
def o4_11 : List AOper := [⟨.call (.func 10) [], (some 57), none⟩,
  ⟨.move (.tmp 57), (some 10), none⟩]
def o4_12 : List AOper := [⟨.move (.tmp 10), (some 58), none⟩,
  ⟨.eq false .ptr (.tmp 58) (.const (.pointer none)), (some 59), none⟩]
def o4_13 : List AOper := [⟨.move (.const (.bool false)), (some 4), none⟩]
def o4_14 : List AOper := [⟨.move (.const (.slice none 0 0)), (some 11), none⟩]
def o4_15 : List AOper := [⟨.move (.const (.int .i64 0)), (some 12), none⟩]
def o4_16 : List AOper := [⟨.move (.const (.int .i64 0)), (some 13), none⟩]
def o4_18 : List AOper := [⟨.move (.tmp 13), (some 60), none⟩,
  ⟨.move (.tmp 1), (some 61), none⟩,
  ⟨.bu .len [(.tmp 61)], (some 62), none⟩,
  ⟨.bin .lss (.tmp 60) (.tmp 62), (some 63), none⟩,
  ⟨.move (.tmp 63), (some 64), none⟩,
  ⟨.move (.tmp 12), (some 65), (some (64, true))⟩,
  ⟨.move (.tmp 5), (some 66), (some (64, true))⟩,
  ⟨.bu .len [(.tmp 66)], (some 67), (some (64, true))⟩,
  ⟨.bin .lss (.tmp 65) (.tmp 67), (some 68), (some (64, true))⟩,
  ⟨.pick (.tmp 64) (.tmp 68) (.const (.bool false)), (some 69), none⟩]
def o4_19 : List AOper := [⟨.move (.tmp 5), (some 72), none⟩,
  ⟨.bu .len [(.tmp 72)], (some 73), none⟩,
  ⟨.move (.tmp 12), (some 74), none⟩,
  ⟨.bin .sub (.tmp 73) (.tmp 74), (some 75), none⟩,
  ⟨.move (.tmp 1), (some 76), none⟩,
  ⟨.move (.tmp 13), (some 77), none⟩,
  ⟨.addrSl 1 (.tmp 76) (.tmp 77), (some 78), none⟩,
  ⟨.load none (.tmp 78), (some 79), none⟩,
  ⟨.bin .rem (.tmp 79) (.const (.int .u16 50)), (some 80), none⟩,
  ⟨.conv (.toInt .i64) (.tmp 80), (some 81), none⟩,
  ⟨.bu .min [(.tmp 75), (.tmp 81)], (some 82), none⟩,
  ⟨.move (.tmp 82), (some 14), none⟩]
def o4_20 : List AOper := [⟨.move (.tmp 10), (some 84), none⟩,
  ⟨.move (.tmp 5), (some 85), none⟩,
  ⟨.move (.tmp 12), (some 86), none⟩,
  ⟨.move (.tmp 12), (some 87), none⟩,
  ⟨.move (.tmp 14), (some 88), none⟩,
  ⟨.bin .add (.tmp 87) (.tmp 88), (some 89), none⟩,
  ⟨.slSl 1 (.tmp 85) (some (.tmp 86)) (some (.tmp 89)) none, (some 90), none⟩,
  ⟨.call (.func 12) [(.tmp 84), (.tmp 90)], (some 91), none⟩,
  ⟨.move (.tmp 91), (some 83), none⟩,
  ⟨.extract (.tmp 83) 0, (some 92), none⟩,
  ⟨.extract (.tmp 83) 1, (some 93), none⟩,
  ⟨.move (.tmp 92), (some 15), none⟩,
  ⟨.move (.tmp 93), (some 16), none⟩]
def o4_21 : List AOper := [⟨.move (.tmp 16), (some 94), none⟩,
  ⟨.bin .neq (.tmp 94) (.const (.int .i64 0)), (some 95), none⟩]
def o4_22 : List AOper := [⟨.move (.const (.bool false)), (some 4), none⟩]
def o4_23 : List AOper := [⟨.move (.tmp 11), (some 96), none⟩,
  ⟨.move (.tmp 15), (some 97), none⟩,
  ⟨.append 42 64 4 [(.float .f64 0), (.float .f64 0), (.slice none 0 0), (.slice none 0 0)] (.tmp 96) (.tmp 97), (some 98), none⟩,
  ⟨.move (.tmp 98), (some 11), none⟩]
def o4_24 : List AOper := [⟨.move (.tmp 12), (some 99), none⟩,
  ⟨.move (.tmp 14), (some 100), none⟩,
  ⟨.bin .add (.tmp 99) (.tmp 100), (some 101), none⟩,
  ⟨.move (.tmp 101), (some 12), none⟩]
def o4_25 : List AOper := [⟨.move (.tmp 13), (some 70), none⟩,
  ⟨.bin .add (.tmp 70) (.const (.int .i64 1)), (some 71), none⟩,
  ⟨.move (.tmp 71), (some 13), none⟩]
def b4_17 : ACode := (.seq (.seq (.ops o4_18) (.cond (.tmp 69) .skip (.exit 2))) (.seq (.block 3 (.seq (.ops o4_19) (.seq (.ops o4_20) (.seq (.seq (.ops o4_21) (.cond (.tmp 95) (.seq (.ops o4_22) .ret) .skip)) (.seq (.ops o4_23) (.ops o4_24)))))) (.ops o4_25)))
def o4_26 : List AOper := [⟨.move (.tmp 10), (some 103), none⟩,
  ⟨.move (.tmp 5), (some 104), none⟩,
  ⟨.move (.tmp 12), (some 105), none⟩,
  ⟨.slSl 1 (.tmp 104) (some (.tmp 105)) none none, (some 106), none⟩,
  ⟨.call (.func 12) [(.tmp 103), (.tmp 106)], (some 107), none⟩,
  ⟨.move (.tmp 107), (some 102), none⟩,
  ⟨.extract (.tmp 102) 0, (some 108), none⟩,
  ⟨.extract (.tmp 102) 1, (some 109), none⟩,
  ⟨.move (.tmp 108), (some 17), none⟩,
  ⟨.move (.tmp 109), (some 18), none⟩]
def o4_27 : List AOper := [⟨.move (.tmp 11), (some 110), none⟩,
  ⟨.move (.tmp 17), (some 111), none⟩,
  ⟨.append 42 64 4 [(.float .f64 0), (.float .f64 0), (.slice none 0 0), (.slice none 0 0)] (.tmp 110) (.tmp 111), (some 112), none⟩,
  ⟨.move (.tmp 112), (some 11), none⟩]
def o4_28 : List AOper := [⟨.move (.tmp 18), (some 113), none⟩,
  ⟨.bin .eql (.tmp 113) (.const (.int .i64 0)), (some 114), none⟩,
  ⟨.move (.tmp 114), (some 115), none⟩,
  ⟨.move (.tmp 10), (some 116), (some (115, true))⟩,
  ⟨.call (.func 16) [(.tmp 116)], (some 117), (some (115, true))⟩,
  ⟨.bin .eql (.tmp 117) (.const (.int .i64 0)), (some 118), (some (115, true))⟩,
  ⟨.pick (.tmp 115) (.tmp 118) (.const (.bool false)), (some 119), none⟩,
  ⟨.move (.tmp 119), (some 120), none⟩,
  ⟨.move (.tmp 11), (some 121), (some (120, true))⟩,
  ⟨.move (.tmp 6), (some 122), (some (120, true))⟩,
  ⟨.call (.func 14) [(.tmp 121), (.tmp 122)], (some 123), (some (120, true))⟩,
  ⟨.pick (.tmp 120) (.tmp 123) (.const (.bool false)), (some 124), none⟩,
  ⟨.move (.tmp 124), (some 125), none⟩,
  ⟨.call (.func 9) [], (some 126), (some (125, true))⟩,
  ⟨.pick (.tmp 125) (.tmp 126) (.const (.bool false)), (some 127), none⟩,
  ⟨.move (.tmp 127), (some 4), none⟩]
def ir4 : AFn := ⟨128, [.tmp 4], (.seq (.ops o4_0) (.seq (.ops o4_1) (.seq (.ops o4_2) (.seq (.seq (.ops o4_3) (.block 0 (.loop b4_4))) (.seq (.ops o4_11) (.seq (.seq (.ops o4_12) (.cond (.tmp 59) (.seq (.ops o4_13) .ret) .skip)) (.seq (.ops o4_14) (.seq (.ops o4_15) (.seq (.seq (.ops o4_16) (.block 2 (.loop b4_17))) (.seq (.ops o4_26) (.seq (.ops o4_27) (.seq (.ops o4_28) .ret))))))))))))⟩
theorem ir4_eq : fnsOf Try.prog 4 = some ir4 := by kernel_rfl

/-! F5 lookout/lookoutlaw27.TapeTurned -/
def o5_0 : List AOper := [⟨.box 42 (.tmp 0), (some 3), none⟩,
  ⟨.move (.const (.bool false)), (some 6), none⟩]
def o5_1 : List AOper := [⟨.load (some 4) (.tmp 3), (some 13), none⟩,
  ⟨.call (.func 18) [(.tmp 13)], (some 14), none⟩,
  ⟨.move (.tmp 14), (some 12), none⟩,
  ⟨.extract (.tmp 12) 0, (some 15), none⟩,
  ⟨.extract (.tmp 12) 1, (some 16), none⟩,
  ⟨.move (.tmp 15), (some 7), none⟩,
  ⟨.move (.tmp 16), (some 8), none⟩]
def o5_2 : List AOper := [⟨.move (.tmp 8), (some 17), none⟩,
  ⟨.bin .neq (.tmp 17) (.const (.int .i64 0)), (some 18), none⟩,
  ⟨.move (.tmp 18), (some 19), none⟩,
  ⟨.move (.tmp 7), (some 20), (some (19, false))⟩,
  ⟨.bu .len [(.tmp 20)], (some 21), (some (19, false))⟩,
  ⟨.bin .gtr (.tmp 21) (.const (.int .i64 262144)), (some 22), (some (19, false))⟩,
  ⟨.pick (.tmp 19) (.const (.bool true)) (.tmp 22), (some 23), none⟩]
def o5_3 : List AOper := [⟨.call (.func 9) [], (some 24), none⟩,
  ⟨.move (.tmp 24), (some 6), none⟩]
def o5_4 : List AOper := [⟨.move (.tmp 7), (some 25), none⟩,
  ⟨.bu .len [(.tmp 25)], (some 26), none⟩,
  ⟨.bin .eql (.tmp 26) (.const (.int .i64 0)), (some 27), none⟩]
def o5_5 : List AOper := [⟨.move (.const (.bool false)), (some 6), none⟩]
def o5_6 : List AOper := [⟨.move (.tmp 1), (some 28), none⟩,
  ⟨.move (.tmp 7), (some 29), none⟩,
  ⟨.bu .len [(.tmp 29)], (some 30), none⟩,
  ⟨.bin .rem (.tmp 28) (.tmp 30), (some 31), none⟩,
  ⟨.move (.tmp 7), (some 32), none⟩,
  ⟨.bu .len [(.tmp 32)], (some 33), none⟩,
  ⟨.bin .add (.tmp 31) (.tmp 33), (some 34), none⟩,
  ⟨.move (.tmp 7), (some 35), none⟩,
  ⟨.bu .len [(.tmp 35)], (some 36), none⟩,
  ⟨.bin .rem (.tmp 34) (.tmp 36), (some 37), none⟩,
  ⟨.move (.tmp 37), (some 1), none⟩]
def o5_7 : List AOper := [⟨.move (.tmp 7), (some 38), none⟩,
  ⟨.move (.tmp 1), (some 39), none⟩,
  ⟨.move (.tmp 7), (some 40), none⟩,
  ⟨.move (.tmp 1), (some 41), none⟩,
  ⟨.addrSl 1 (.tmp 40) (.tmp 41), (some 42), none⟩,
  ⟨.load none (.tmp 42), (some 43), none⟩,
  ⟨.move (.tmp 2), (some 44), none⟩,
  ⟨.bu .max [(.tmp 44), (.const (.int .u8 1))], (some 45), none⟩,
  ⟨.bin .xor (.tmp 43) (.tmp 45), (some 46), none⟩,
  ⟨.addrSl 1 (.tmp 38) (.tmp 39), (some 47), none⟩,
  ⟨.store 1 (.tmp 47) (.tmp 46), none, none⟩]
def o5_8 : List AOper := [⟨.call (.func 10) [], (some 48), none⟩,
  ⟨.move (.tmp 48), (some 9), none⟩]
def o5_9 : List AOper := [⟨.move (.tmp 9), (some 49), none⟩,
  ⟨.eq false .ptr (.tmp 49) (.const (.pointer none)), (some 50), none⟩]
def o5_10 : List AOper := [⟨.move (.const (.bool false)), (some 6), none⟩]
def o5_11 : List AOper := [⟨.move (.tmp 9), (some 52), none⟩,
  ⟨.move (.tmp 7), (some 53), none⟩,
  ⟨.call (.func 12) [(.tmp 52), (.tmp 53)], (some 54), none⟩,
  ⟨.move (.tmp 54), (some 51), none⟩,
  ⟨.extract (.tmp 51) 0, (some 55), none⟩,
  ⟨.extract (.tmp 51) 1, (some 56), none⟩,
  ⟨.move (.tmp 55), (some 10), none⟩,
  ⟨.move (.tmp 56), (some 11), none⟩]
def o5_12 : List AOper := [⟨.move (.tmp 10), (some 57), none⟩,
  ⟨.bu .len [(.tmp 57)], (some 58), none⟩,
  ⟨.bin .eql (.tmp 58) (.const (.int .i64 0)), (some 59), none⟩,
  ⟨.move (.tmp 59), (some 60), none⟩,
  ⟨.move (.tmp 11), (some 61), (some (60, true))⟩,
  ⟨.bin .eql (.tmp 61) (.const (.int .i64 270)), (some 62), (some (60, true))⟩,
  ⟨.move (.tmp 62), (some 63), (some (60, true))⟩,
  ⟨.move (.tmp 9), (some 64), (some (63, true))⟩,
  ⟨.call (.func 16) [(.tmp 64)], (some 65), (some (63, true))⟩,
  ⟨.bin .eql (.tmp 65) (.const (.int .i64 0)), (some 66), (some (63, true))⟩,
  ⟨.pick (.tmp 63) (.tmp 66) (.const (.bool false)), (some 67), (some (60, true))⟩,
  ⟨.move (.tmp 67), (some 68), (some (60, true))⟩,
  ⟨.move (.tmp 11), (some 69), (some (68, false))⟩,
  ⟨.bin .eql (.tmp 69) (.const (.int .i64 0)), (some 70), (some (68, false))⟩,
  ⟨.move (.tmp 70), (some 71), (some (68, false))⟩,
  ⟨.move (.tmp 9), (some 72), (some (71, true))⟩,
  ⟨.call (.func 16) [(.tmp 72)], (some 73), (some (71, true))⟩,
  ⟨.move (.tmp 7), (some 74), (some (71, true))⟩,
  ⟨.bu .len [(.tmp 74)], (some 75), (some (71, true))⟩,
  ⟨.bin .eql (.tmp 73) (.tmp 75), (some 76), (some (71, true))⟩,
  ⟨.pick (.tmp 71) (.tmp 76) (.const (.bool false)), (some 77), (some (68, false))⟩,
  ⟨.pick (.tmp 68) (.const (.bool true)) (.tmp 77), (some 78), (some (60, true))⟩,
  ⟨.pick (.tmp 60) (.tmp 78) (.const (.bool false)), (some 79), none⟩,
  ⟨.move (.tmp 79), (some 80), none⟩,
  ⟨.call (.func 9) [], (some 81), (some (80, true))⟩,
  ⟨.pick (.tmp 80) (.tmp 81) (.const (.bool false)), (some 82), none⟩,
  ⟨.move (.tmp 82), (some 6), none⟩]
def ir5 : AFn := ⟨83, [.tmp 6], (.seq (.ops o5_0) (.seq (.ops o5_1) (.seq (.seq (.ops o5_2) (.cond (.tmp 23) (.seq (.ops o5_3) .ret) .skip)) (.seq (.seq (.ops o5_4) (.cond (.tmp 27) (.seq (.ops o5_5) .ret) .skip)) (.seq (.ops o5_6) (.seq (.ops o5_7) (.seq (.ops o5_8) (.seq (.seq (.ops o5_9) (.cond (.tmp 50) (.seq (.ops o5_10) .ret) .skip)) (.seq (.ops o5_11) (.seq (.ops o5_12) .ret))))))))))⟩
theorem ir5_eq : fnsOf Try.prog 5 = some ir5 := by kernel_rfl

/-! F6 lookout/lookoutlaw27.TapeRows -/
def o6_0 : List AOper := [⟨.box 42 (.tmp 0), (some 1), none⟩,
  ⟨.move (.const (.bool false)), (some 2), none⟩]
def o6_1 : List AOper := [⟨.load (some 4) (.tmp 1), (some 15), none⟩,
  ⟨.call (.func 19) [(.tmp 15)], (some 16), none⟩,
  ⟨.alloc 42 [(.float .f64 0), (.float .f64 0), (.slice none 0 0), (.slice none 0 0)], (some 3), none⟩,
  ⟨.store 4 (.tmp 3) (.tmp 16), none, none⟩]
def o6_2 : List AOper := [⟨.load (some 4) (.tmp 3), (some 18), none⟩,
  ⟨.call (.func 20) [(.tmp 18)], (some 19), none⟩,
  ⟨.move (.tmp 19), (some 17), none⟩,
  ⟨.extract (.tmp 17) 0, (some 20), none⟩,
  ⟨.extract (.tmp 17) 1, (some 21), none⟩,
  ⟨.move (.tmp 20), (some 4), none⟩,
  ⟨.move (.tmp 21), (some 5), none⟩]
def o6_3 : List AOper := [⟨.load (some 4) (.tmp 3), (some 23), none⟩,
  ⟨.call (.func 18) [(.tmp 23)], (some 24), none⟩,
  ⟨.move (.tmp 24), (some 22), none⟩,
  ⟨.extract (.tmp 22) 0, (some 25), none⟩,
  ⟨.extract (.tmp 22) 1, (some 26), none⟩,
  ⟨.move (.tmp 25), (some 6), none⟩,
  ⟨.move (.tmp 26), (some 7), none⟩]
def o6_4 : List AOper := [⟨.load (some 4) (.tmp 1), (some 28), none⟩,
  ⟨.call (.func 21) [(.tmp 28)], (some 29), none⟩,
  ⟨.move (.tmp 29), (some 27), none⟩,
  ⟨.extract (.tmp 27) 0, (some 30), none⟩,
  ⟨.extract (.tmp 27) 1, (some 31), none⟩,
  ⟨.move (.tmp 30), (some 8), none⟩,
  ⟨.move (.tmp 31), (some 9), none⟩]
def o6_5 : List AOper := [⟨.load (some 4) (.tmp 1), (some 33), none⟩,
  ⟨.call (.func 22) [(.tmp 33)], (some 34), none⟩,
  ⟨.move (.tmp 34), (some 32), none⟩,
  ⟨.extract (.tmp 32) 0, (some 35), none⟩,
  ⟨.extract (.tmp 32) 1, (some 36), none⟩,
  ⟨.move (.tmp 35), (some 10), none⟩,
  ⟨.move (.tmp 36), (some 11), none⟩]
def o6_6 : List AOper := [⟨.move (.tmp 5), (some 37), none⟩,
  ⟨.move (.tmp 9), (some 38), none⟩,
  ⟨.bin .neq (.tmp 37) (.tmp 38), (some 39), none⟩,
  ⟨.move (.tmp 39), (some 40), none⟩,
  ⟨.move (.tmp 7), (some 41), (some (40, false))⟩,
  ⟨.move (.tmp 11), (some 42), (some (40, false))⟩,
  ⟨.bin .neq (.tmp 41) (.tmp 42), (some 43), (some (40, false))⟩,
  ⟨.pick (.tmp 40) (.const (.bool true)) (.tmp 43), (some 44), none⟩,
  ⟨.move (.tmp 44), (some 45), none⟩,
  ⟨.move (.tmp 4), (some 46), (some (45, false))⟩,
  ⟨.call (.func 24) [(.tmp 46)], (some 47), (some (45, false))⟩,
  ⟨.move (.tmp 8), (some 48), (some (45, false))⟩,
  ⟨.call (.func 23) [(.tmp 47), (.tmp 48)], (some 49), (some (45, false))⟩,
  ⟨.un .not (.tmp 49), (some 50), (some (45, false))⟩,
  ⟨.pick (.tmp 45) (.const (.bool true)) (.tmp 50), (some 51), none⟩,
  ⟨.move (.tmp 51), (some 52), none⟩,
  ⟨.move (.tmp 6), (some 53), (some (52, false))⟩,
  ⟨.text (.tmp 53), (some 54), (some (52, false))⟩,
  ⟨.move (.tmp 10), (some 55), (some (52, false))⟩,
  ⟨.text (.tmp 55), (some 56), (some (52, false))⟩,
  ⟨.bin .neq (.tmp 54) (.tmp 56), (some 57), (some (52, false))⟩,
  ⟨.pick (.tmp 52) (.const (.bool true)) (.tmp 57), (some 58), none⟩,
  ⟨.move (.tmp 58), (some 59), none⟩,
  ⟨.move (.tmp 4), (some 60), (some (59, false))⟩,
  ⟨.bu .len [(.tmp 60)], (some 61), (some (59, false))⟩,
  ⟨.move (.tmp 8), (some 62), (some (59, false))⟩,
  ⟨.bu .len [(.tmp 62)], (some 63), (some (59, false))⟩,
  ⟨.bin .neq (.tmp 61) (.tmp 63), (some 64), (some (59, false))⟩,
  ⟨.pick (.tmp 59) (.const (.bool true)) (.tmp 64), (some 65), none⟩]
def o6_7 : List AOper := [⟨.move (.const (.bool false)), (some 2), none⟩]
def o6_8 : List AOper := [⟨.move (.const (.int .i64 0)), (some 12), none⟩]
def o6_10 : List AOper := [⟨.move (.tmp 12), (some 66), none⟩,
  ⟨.move (.tmp 6), (some 67), none⟩,
  ⟨.bu .len [(.tmp 67)], (some 68), none⟩,
  ⟨.bin .lss (.tmp 66) (.tmp 68), (some 69), none⟩]
def o6_11 : List AOper := [⟨.move (.tmp 6), (some 72), none⟩,
  ⟨.move (.tmp 12), (some 73), none⟩,
  ⟨.addrSl 1 (.tmp 72) (.tmp 73), (some 74), none⟩,
  ⟨.store 1 (.tmp 74) (.const (.int .u8 120)), none, none⟩]
def o6_12 : List AOper := [⟨.move (.tmp 12), (some 70), none⟩,
  ⟨.bin .add (.tmp 70) (.const (.int .i64 1)), (some 71), none⟩,
  ⟨.move (.tmp 71), (some 12), none⟩]
def b6_9 : ACode := (.seq (.seq (.ops o6_10) (.cond (.tmp 69) .skip (.exit 0))) (.seq (.block 1 (.ops o6_11)) (.ops o6_12)))
def o6_13 : List AOper := [⟨.load (some 4) (.tmp 3), (some 76), none⟩,
  ⟨.call (.func 18) [(.tmp 76)], (some 77), none⟩,
  ⟨.move (.tmp 77), (some 75), none⟩,
  ⟨.extract (.tmp 75) 0, (some 78), none⟩,
  ⟨.extract (.tmp 75) 1, (some 79), none⟩,
  ⟨.move (.tmp 78), (some 13), none⟩,
  ⟨.move (.tmp 79), (some 14), none⟩]
def o6_14 : List AOper := [⟨.move (.tmp 14), (some 80), none⟩,
  ⟨.move (.tmp 11), (some 81), none⟩,
  ⟨.bin .eql (.tmp 80) (.tmp 81), (some 82), none⟩,
  ⟨.move (.tmp 82), (some 83), none⟩,
  ⟨.move (.tmp 13), (some 84), (some (83, true))⟩,
  ⟨.text (.tmp 84), (some 85), (some (83, true))⟩,
  ⟨.move (.tmp 10), (some 86), (some (83, true))⟩,
  ⟨.text (.tmp 86), (some 87), (some (83, true))⟩,
  ⟨.bin .eql (.tmp 85) (.tmp 87), (some 88), (some (83, true))⟩,
  ⟨.pick (.tmp 83) (.tmp 88) (.const (.bool false)), (some 89), none⟩,
  ⟨.move (.tmp 89), (some 90), none⟩,
  ⟨.load (some 4) (.tmp 3), (some 91), (some (90, true))⟩,
  ⟨.load (some 4) (.tmp 1), (some 92), (some (90, true))⟩,
  ⟨.call (.func 25) [(.tmp 91), (.tmp 92)], (some 93), (some (90, true))⟩,
  ⟨.pick (.tmp 90) (.tmp 93) (.const (.bool false)), (some 94), none⟩,
  ⟨.move (.tmp 94), (some 95), none⟩,
  ⟨.call (.func 9) [], (some 96), (some (95, true))⟩,
  ⟨.pick (.tmp 95) (.tmp 96) (.const (.bool false)), (some 97), none⟩,
  ⟨.move (.tmp 97), (some 2), none⟩]
def ir6 : AFn := ⟨98, [.tmp 2], (.seq (.ops o6_0) (.seq (.ops o6_1) (.seq (.ops o6_2) (.seq (.ops o6_3) (.seq (.ops o6_4) (.seq (.ops o6_5) (.seq (.seq (.ops o6_6) (.cond (.tmp 65) (.seq (.ops o6_7) .ret) .skip)) (.seq (.seq (.ops o6_8) (.block 0 (.loop b6_9))) (.seq (.ops o6_13) (.seq (.ops o6_14) .ret))))))))))⟩
theorem ir6_eq : fnsOf Try.prog 6 = some ir6 := by kernel_rfl

/-! F7 lookout/lookoutlaw27.TapeExact -/
def o7_0 : List AOper := [⟨.box 42 (.tmp 0), (some 1), none⟩,
  ⟨.move (.const (.bool false)), (some 2), none⟩]
def o7_1 : List AOper := [⟨.load (some 4) (.tmp 1), (some 8), none⟩,
  ⟨.call (.func 20) [(.tmp 8)], (some 9), none⟩,
  ⟨.move (.tmp 9), (some 7), none⟩,
  ⟨.extract (.tmp 7) 0, (some 10), none⟩,
  ⟨.extract (.tmp 7) 1, (some 11), none⟩,
  ⟨.move (.tmp 10), (some 3), none⟩,
  ⟨.move (.tmp 11), (some 4), none⟩]
def o7_2 : List AOper := [⟨.move (.tmp 4), (some 12), none⟩,
  ⟨.bin .neq (.tmp 12) (.const (.int .i64 0)), (some 13), none⟩,
  ⟨.move (.tmp 13), (some 14), none⟩,
  ⟨.fieldAddr 1 (.tmp 1), (some 15), (some (14, false))⟩,
  ⟨.load none (.tmp 15), (some 16), (some (14, false))⟩,
  ⟨.call (.func 26) [(.tmp 16)], (some 17), (some (14, false))⟩,
  ⟨.un .not (.tmp 17), (some 18), (some (14, false))⟩,
  ⟨.pick (.tmp 14) (.const (.bool true)) (.tmp 18), (some 19), none⟩]
def o7_3 : List AOper := [⟨.call (.func 9) [], (some 20), none⟩,
  ⟨.move (.tmp 20), (some 2), none⟩]
def o7_4 : List AOper := [⟨.move (.tmp 3), (some 22), none⟩,
  ⟨.fieldAddr 0 (.tmp 1), (some 23), none⟩,
  ⟨.load none (.tmp 23), (some 24), none⟩,
  ⟨.fieldAddr 1 (.tmp 1), (some 25), none⟩,
  ⟨.load none (.tmp 25), (some 26), none⟩,
  ⟨.call (.func 27) [(.tmp 22), (.tmp 24), (.tmp 26)], (some 27), none⟩,
  ⟨.move (.tmp 27), (some 21), none⟩,
  ⟨.extract (.tmp 21) 0, (some 28), none⟩,
  ⟨.extract (.tmp 21) 1, (some 29), none⟩,
  ⟨.alloc 42 [(.float .f64 0), (.float .f64 0), (.slice none 0 0), (.slice none 0 0)], (some 5), none⟩,
  ⟨.store 4 (.tmp 5) (.tmp 28), none, none⟩,
  ⟨.move (.tmp 29), (some 6), none⟩]
def o7_5 : List AOper := [⟨.move (.tmp 6), (some 30), none⟩,
  ⟨.bin .eql (.tmp 30) (.const (.int .i64 0)), (some 31), none⟩,
  ⟨.move (.tmp 31), (some 32), none⟩,
  ⟨.load (some 4) (.tmp 5), (some 33), (some (32, true))⟩,
  ⟨.load (some 4) (.tmp 1), (some 34), (some (32, true))⟩,
  ⟨.call (.func 25) [(.tmp 33), (.tmp 34)], (some 35), (some (32, true))⟩,
  ⟨.pick (.tmp 32) (.tmp 35) (.const (.bool false)), (some 36), none⟩,
  ⟨.move (.tmp 36), (some 37), none⟩,
  ⟨.call (.func 9) [], (some 38), (some (37, true))⟩,
  ⟨.pick (.tmp 37) (.tmp 38) (.const (.bool false)), (some 39), none⟩,
  ⟨.move (.tmp 39), (some 2), none⟩]
def ir7 : AFn := ⟨40, [.tmp 2], (.seq (.ops o7_0) (.seq (.ops o7_1) (.seq (.seq (.ops o7_2) (.cond (.tmp 19) (.seq (.ops o7_3) .ret) .skip)) (.seq (.ops o7_4) (.seq (.ops o7_5) .ret)))))⟩
theorem ir7_eq : fnsOf Try.prog 7 = some ir7 := by kernel_rfl

/-! F8 lookout/lookoutlaw27.great -/
def o8_0 : List AOper := [⟨.move (.const (.bool false)), (some 2), none⟩]
def o8_1 : List AOper := [⟨.move (.tmp 0), (some 5), none⟩,
  ⟨.bu .len [(.tmp 5)], (some 6), none⟩,
  ⟨.move (.tmp 6), (some 3), none⟩]
def o8_2 : List AOper := [⟨.move (.const (.int .i64 0)), (some 4), none⟩]
def o8_4 : List AOper := [⟨.move (.tmp 4), (some 7), none⟩,
  ⟨.move (.tmp 0), (some 8), none⟩,
  ⟨.bu .len [(.tmp 8)], (some 9), none⟩,
  ⟨.bin .lss (.tmp 7) (.tmp 9), (some 10), none⟩]
def o8_5 : List AOper := [⟨.move (.tmp 3), (some 13), none⟩,
  ⟨.move (.tmp 0), (some 14), none⟩,
  ⟨.move (.tmp 4), (some 15), none⟩,
  ⟨.addrSl 1 (.tmp 14) (.tmp 15), (some 16), none⟩,
  ⟨.load none (.tmp 16), (some 17), none⟩,
  ⟨.bu .len [(.tmp 17)], (some 18), none⟩,
  ⟨.bin .add (.tmp 13) (.tmp 18), (some 19), none⟩,
  ⟨.move (.tmp 19), (some 3), none⟩]
def o8_6 : List AOper := [⟨.move (.tmp 4), (some 11), none⟩,
  ⟨.bin .add (.tmp 11) (.const (.int .i64 1)), (some 12), none⟩,
  ⟨.move (.tmp 12), (some 4), none⟩]
def b8_3 : ACode := (.seq (.seq (.ops o8_4) (.cond (.tmp 10) .skip (.exit 0))) (.seq (.block 1 (.ops o8_5)) (.ops o8_6)))
def o8_7 : List AOper := [⟨.move (.tmp 3), (some 20), none⟩,
  ⟨.bin .gtr (.tmp 20) (.const (.int .i64 262144)), (some 21), none⟩,
  ⟨.move (.tmp 21), (some 2), none⟩]
def ir8 : AFn := ⟨22, [.tmp 2], (.seq (.ops o8_0) (.seq (.ops o8_1) (.seq (.seq (.ops o8_2) (.block 0 (.loop b8_3))) (.seq (.ops o8_7) .ret))))⟩
theorem ir8_eq : fnsOf Try.prog 8 = some ir8 := by kernel_rfl

/-! F10 lookout/tape.New -/
def o10_0 : List AOper := [⟨.move (.const (.pointer none)), (some 0), none⟩]
def o10_1 : List AOper := [⟨.build [(.slice none 0 0), (.bool false)] [], (some 1), none⟩,
  ⟨.box 70 (.tmp 1), (some 2), none⟩,
  ⟨.move (.tmp 2), (some 0), none⟩]
def ir10 : AFn := ⟨3, [.tmp 0], (.seq (.ops o10_0) (.seq (.ops o10_1) .ret))⟩
theorem ir10_eq : fnsOf Try.prog 10 = some ir10 := by kernel_rfl

/-! F11 lookout/lookoutref27.New -/
def o11_0 : List AOper := [⟨.move (.const (.pointer none)), (some 0), none⟩]
def o11_1 : List AOper := [⟨.build [(.slice none 0 0), (.bool false)] [], (some 1), none⟩,
  ⟨.box 72 (.tmp 1), (some 2), none⟩,
  ⟨.move (.tmp 2), (some 0), none⟩]
def ir11 : AFn := ⟨3, [.tmp 0], (.seq (.ops o11_0) (.seq (.ops o11_1) .ret))⟩
theorem ir11_eq : fnsOf Try.prog 11 = some ir11 := by kernel_rfl

/-! F12 (*lookout/tape.Reader).Feed -/
def o12_0 : List AOper := [⟨.move (.const (.slice none 0 0)), (some 4), none⟩,
  ⟨.move (.const (.int .i64 0)), (some 5), none⟩]
def o12_1 : List AOper := [⟨.move (.tmp 0), (some 11), none⟩,
  ⟨.eq false .ptr (.tmp 11) (.const (.pointer none)), (some 12), none⟩,
  ⟨.move (.tmp 12), (some 10), none⟩]
def o12_2 : List AOper := [⟨.move (.const (.slice none 0 0)), (some 4), none⟩,
  ⟨.move (.const (.int .i64 1)), (some 5), none⟩]
def o12_3 : List AOper := [⟨.move (.tmp 1), (some 14), none⟩,
  ⟨.bu .len [(.tmp 14)], (some 15), none⟩,
  ⟨.bin .gtr (.tmp 15) (.const (.int .i64 1048576)), (some 16), none⟩,
  ⟨.move (.tmp 16), (some 13), none⟩]
def o12_4 : List AOper := [⟨.move (.const (.slice none 0 0)), (some 4), none⟩,
  ⟨.move (.const (.int .i64 3)), (some 5), none⟩]
def o12_5 : List AOper := [⟨.move (.tmp 0), (some 18), none⟩,
  ⟨.nilCheck (.tmp 18), (some 19), none⟩,
  ⟨.fieldAddr 1 (.tmp 19), (some 20), none⟩,
  ⟨.load none (.tmp 20), (some 21), none⟩,
  ⟨.move (.tmp 21), (some 17), none⟩]
def o12_6 : List AOper := [⟨.move (.const (.slice none 0 0)), (some 4), none⟩,
  ⟨.move (.const (.int .i64 270)), (some 5), none⟩]
def o12_7 : List AOper := [⟨.move (.tmp 0), (some 22), none⟩,
  ⟨.move (.tmp 0), (some 23), none⟩,
  ⟨.nilCheck (.tmp 23), (some 24), none⟩,
  ⟨.fieldAddr 0 (.tmp 24), (some 25), none⟩,
  ⟨.load none (.tmp 25), (some 26), none⟩,
  ⟨.move (.tmp 1), (some 27), none⟩,
  ⟨.append 5 1 1 [(.int .u8 0)] (.tmp 26) (.tmp 27), (some 28), none⟩,
  ⟨.nilCheck (.tmp 22), (some 29), none⟩,
  ⟨.fieldAddr 0 (.tmp 29), (some 30), none⟩,
  ⟨.store 1 (.tmp 30) (.tmp 28), none, none⟩]
def o12_8 : List AOper := [⟨.move (.const (.slice none 0 0)), (some 6), none⟩]
def o12_10 : List AOper := [⟨.move (.tmp 0), (some 32), none⟩,
  ⟨.nilCheck (.tmp 32), (some 33), none⟩,
  ⟨.fieldAddr 0 (.tmp 33), (some 34), none⟩,
  ⟨.load none (.tmp 34), (some 35), none⟩,
  ⟨.call (.func 28) [(.tmp 35)], (some 36), none⟩,
  ⟨.move (.tmp 36), (some 31), none⟩,
  ⟨.extract (.tmp 31) 0, (some 37), none⟩,
  ⟨.extract (.tmp 31) 1, (some 38), none⟩,
  ⟨.extract (.tmp 31) 2, (some 39), none⟩,
  ⟨.alloc 42 [(.float .f64 0), (.float .f64 0), (.slice none 0 0), (.slice none 0 0)], (some 7), none⟩,
  ⟨.store 4 (.tmp 7) (.tmp 37), none, none⟩,
  ⟨.move (.tmp 38), (some 8), none⟩,
  ⟨.move (.tmp 39), (some 9), none⟩]
def o12_11 : List AOper := [⟨.move (.tmp 9), (some 40), none⟩]
def o12_12 : List AOper := [⟨.move (.tmp 0), (some 41), none⟩,
  ⟨.move (.tmp 0), (some 42), none⟩,
  ⟨.nilCheck (.tmp 41), (some 43), none⟩,
  ⟨.fieldAddr 0 (.tmp 43), (some 44), none⟩,
  ⟨.store 1 (.tmp 44) (.const (.slice none 0 0)), none, none⟩,
  ⟨.nilCheck (.tmp 42), (some 45), none⟩,
  ⟨.fieldAddr 1 (.tmp 45), (some 46), none⟩,
  ⟨.store 1 (.tmp 46) (.const (.bool true)), none, none⟩]
def o12_13 : List AOper := [⟨.move (.tmp 6), (some 47), none⟩,
  ⟨.move (.tmp 47), (some 4), none⟩,
  ⟨.move (.const (.int .i64 270)), (some 5), none⟩]
def o12_14 : List AOper := [⟨.move (.tmp 8), (some 48), none⟩,
  ⟨.bin .eql (.tmp 48) (.const (.int .i64 0)), (some 49), none⟩]
def o12_15 : List AOper := [⟨.move (.tmp 0), (some 50), none⟩,
  ⟨.move (.tmp 0), (some 51), none⟩,
  ⟨.nilCheck (.tmp 51), (some 52), none⟩,
  ⟨.fieldAddr 0 (.tmp 52), (some 53), none⟩,
  ⟨.load none (.tmp 53), (some 54), none⟩,
  ⟨.append 5 1 1 [(.int .u8 0)] (.const (.slice none 0 0)) (.tmp 54), (some 55), none⟩,
  ⟨.nilCheck (.tmp 50), (some 56), none⟩,
  ⟨.fieldAddr 0 (.tmp 56), (some 57), none⟩,
  ⟨.store 1 (.tmp 57) (.tmp 55), none, none⟩]
def o12_16 : List AOper := [⟨.move (.tmp 6), (some 58), none⟩,
  ⟨.move (.tmp 58), (some 4), none⟩,
  ⟨.move (.const (.int .i64 0)), (some 5), none⟩]
def o12_17 : List AOper := [⟨.move (.tmp 6), (some 59), none⟩,
  ⟨.load (some 4) (.tmp 7), (some 60), none⟩,
  ⟨.buildSlice 42 4 [(.float .f64 0), (.float .f64 0), (.slice none 0 0), (.slice none 0 0)] 1 [(0, (.tmp 60))], (some 61), none⟩,
  ⟨.append 42 64 4 [(.float .f64 0), (.float .f64 0), (.slice none 0 0), (.slice none 0 0)] (.tmp 59) (.tmp 61), (some 62), none⟩,
  ⟨.move (.tmp 62), (some 6), none⟩]
def o12_18 : List AOper := [⟨.move (.tmp 0), (some 63), none⟩,
  ⟨.move (.tmp 0), (some 64), none⟩,
  ⟨.nilCheck (.tmp 64), (some 65), none⟩,
  ⟨.fieldAddr 0 (.tmp 65), (some 66), none⟩,
  ⟨.load none (.tmp 66), (some 67), none⟩,
  ⟨.move (.tmp 8), (some 68), none⟩,
  ⟨.slSl 1 (.tmp 67) (some (.tmp 68)) none none, (some 69), none⟩,
  ⟨.nilCheck (.tmp 63), (some 70), none⟩,
  ⟨.fieldAddr 0 (.tmp 70), (some 71), none⟩,
  ⟨.store 1 (.tmp 71) (.tmp 69), none, none⟩]
def b12_9 : ACode := (.block 2 (.seq (.ops o12_10) (.seq (.seq (.ops o12_11) (.cond (.tmp 40) (.seq (.ops o12_12) (.seq (.ops o12_13) .ret)) .skip)) (.seq (.seq (.ops o12_14) (.cond (.tmp 49) (.seq (.ops o12_15) (.seq (.ops o12_16) .ret)) .skip)) (.seq (.ops o12_17) (.ops o12_18))))))
def ir12 : AFn := ⟨72, [.tmp 4, .tmp 5], (.seq (.ops o12_0) (.seq (.block 0 (.seq (.ops o12_1) (.cond (.tmp 10) (.seq (.ops o12_2) .ret) (.seq (.ops o12_3) (.cond (.tmp 13) (.seq (.ops o12_4) .ret) (.seq (.ops o12_5) (.cond (.tmp 17) (.seq (.ops o12_6) .ret) .skip))))))) (.seq (.ops o12_7) (.seq (.ops o12_8) (.block 1 (.loop b12_9))))))⟩
theorem ir12_eq : fnsOf Try.prog 12 = some ir12 := by kernel_rfl

/-! F13 (*lookout/lookoutref27.Reader).Feed -/
def o13_0 : List AOper := [⟨.move (.const (.slice none 0 0)), (some 4), none⟩,
  ⟨.move (.const (.int .i64 0)), (some 5), none⟩]
def o13_1 : List AOper := [⟨.move (.tmp 0), (some 9), none⟩,
  ⟨.eq false .ptr (.tmp 9) (.const (.pointer none)), (some 10), none⟩]
def o13_2 : List AOper := [⟨.move (.const (.slice none 0 0)), (some 4), none⟩,
  ⟨.move (.const (.int .i64 1)), (some 5), none⟩]
def o13_3 : List AOper := [⟨.move (.tmp 1), (some 11), none⟩,
  ⟨.bu .len [(.tmp 11)], (some 12), none⟩,
  ⟨.bin .gtr (.tmp 12) (.const (.int .i64 1048576)), (some 13), none⟩]
def o13_4 : List AOper := [⟨.move (.const (.slice none 0 0)), (some 4), none⟩,
  ⟨.move (.const (.int .i64 3)), (some 5), none⟩]
def o13_5 : List AOper := [⟨.move (.tmp 0), (some 14), none⟩,
  ⟨.nilCheck (.tmp 14), (some 15), none⟩,
  ⟨.fieldAddr 1 (.tmp 15), (some 16), none⟩,
  ⟨.load none (.tmp 16), (some 17), none⟩]
def o13_6 : List AOper := [⟨.move (.const (.slice none 0 0)), (some 4), none⟩,
  ⟨.move (.const (.int .i64 270)), (some 5), none⟩]
def o13_7 : List AOper := [⟨.move (.tmp 0), (some 18), none⟩,
  ⟨.move (.tmp 0), (some 19), none⟩,
  ⟨.nilCheck (.tmp 19), (some 20), none⟩,
  ⟨.fieldAddr 0 (.tmp 20), (some 21), none⟩,
  ⟨.load none (.tmp 21), (some 22), none⟩,
  ⟨.move (.tmp 1), (some 23), none⟩,
  ⟨.append 5 1 1 [(.int .u8 0)] (.tmp 22) (.tmp 23), (some 24), none⟩,
  ⟨.nilCheck (.tmp 18), (some 25), none⟩,
  ⟨.fieldAddr 0 (.tmp 25), (some 26), none⟩,
  ⟨.store 1 (.tmp 26) (.tmp 24), none, none⟩]
def o13_8 : List AOper := [⟨.move (.const (.slice none 0 0)), (some 6), none⟩]
def o13_10 : List AOper := [⟨.move (.tmp 0), (some 27), none⟩,
  ⟨.nilCheck (.tmp 27), (some 28), none⟩,
  ⟨.fieldAddr 0 (.tmp 28), (some 29), none⟩,
  ⟨.load none (.tmp 29), (some 30), none⟩,
  ⟨.call (.func 29) [(.tmp 30)], (some 31), none⟩,
  ⟨.move (.tmp 31), (some 7), none⟩]
def o13_11 : List AOper := [⟨.move (.tmp 0), (some 32), none⟩,
  ⟨.nilCheck (.tmp 32), (some 33), none⟩,
  ⟨.fieldAddr 0 (.tmp 33), (some 34), none⟩,
  ⟨.load none (.tmp 34), (some 35), none⟩,
  ⟨.call (.func 30) [(.tmp 35)], (some 36), none⟩,
  ⟨.move (.tmp 36), (some 8), none⟩]
def o13_12 : List AOper := [⟨.move (.tmp 7), (some 37), none⟩,
  ⟨.un .not (.tmp 37), (some 38), none⟩,
  ⟨.move (.tmp 38), (some 39), none⟩,
  ⟨.move (.tmp 8), (some 40), (some (39, true))⟩,
  ⟨.bin .gtr (.tmp 40) (.const (.int .i64 0)), (some 41), (some (39, true))⟩,
  ⟨.pick (.tmp 39) (.tmp 41) (.const (.bool false)), (some 42), none⟩,
  ⟨.move (.tmp 42), (some 43), none⟩,
  ⟨.move (.tmp 0), (some 44), (some (43, true))⟩,
  ⟨.nilCheck (.tmp 44), (some 45), (some (43, true))⟩,
  ⟨.fieldAddr 0 (.tmp 45), (some 46), (some (43, true))⟩,
  ⟨.load none (.tmp 46), (some 47), (some (43, true))⟩,
  ⟨.bu .len [(.tmp 47)], (some 48), (some (43, true))⟩,
  ⟨.move (.tmp 8), (some 49), (some (43, true))⟩,
  ⟨.bin .geq (.tmp 48) (.tmp 49), (some 50), (some (43, true))⟩,
  ⟨.pick (.tmp 43) (.tmp 50) (.const (.bool false)), (some 51), none⟩]
def d13_13 : List DOper := [⟨⟨.move (.tmp 0), (some 52), none⟩, 0⟩,
  ⟨⟨.nilCheck (.tmp 52), (some 53), none⟩, 1⟩,
  ⟨⟨.fieldAddr 0 (.tmp 53), (some 54), none⟩, 3⟩,
  ⟨⟨.load none (.tmp 54), (some 55), none⟩, 7⟩,
  ⟨⟨.move (.tmp 8), (some 56), none⟩, 0⟩,
  ⟨⟨.bin .sub (.tmp 56) (.const (.int .i64 4)), (some 57), none⟩, 16⟩,
  ⟨⟨.slSl 1 (.tmp 55) none (some (.tmp 57)) none, (some 58), none⟩, 63⟩,
  ⟨⟨.call (.func 31) [(.tmp 58)], (some 59), none⟩, 127⟩,
  ⟨⟨.conv (.toInt .u64) (.tmp 59), (some 60), none⟩, 255⟩,
  ⟨⟨.move (.tmp 0), (some 61), none⟩, 0⟩,
  ⟨⟨.nilCheck (.tmp 61), (some 62), none⟩, 512⟩,
  ⟨⟨.fieldAddr 0 (.tmp 62), (some 63), none⟩, 1536⟩,
  ⟨⟨.load none (.tmp 63), (some 64), none⟩, 3584⟩,
  ⟨⟨.move (.tmp 8), (some 65), none⟩, 0⟩,
  ⟨⟨.bin .sub (.tmp 65) (.const (.int .i64 4)), (some 66), none⟩, 8192⟩,
  ⟨⟨.move (.tmp 8), (some 67), none⟩, 0⟩,
  ⟨⟨.slSl 1 (.tmp 64) (some (.tmp 66)) (some (.tmp 67)) none, (some 68), none⟩, 65024⟩,
  ⟨⟨.call (.func 32) [(.tmp 68)], (some 69), none⟩, 130815⟩,
  ⟨⟨.bin .neq (.tmp 60) (.tmp 69), (some 70), none⟩, 262143⟩,
  ⟨⟨.move (.tmp 70), (some 7), none⟩, 524287⟩]
def o13_14 : List AOper := [⟨.move (.tmp 7), (some 71), none⟩]
def o13_15 : List AOper := [⟨.move (.tmp 0), (some 72), none⟩,
  ⟨.nilCheck (.tmp 72), (some 73), none⟩,
  ⟨.fieldAddr 0 (.tmp 73), (some 74), none⟩,
  ⟨.store 1 (.tmp 74) (.const (.slice none 0 0)), none, none⟩]
def o13_16 : List AOper := [⟨.move (.tmp 0), (some 75), none⟩,
  ⟨.nilCheck (.tmp 75), (some 76), none⟩,
  ⟨.fieldAddr 1 (.tmp 76), (some 77), none⟩,
  ⟨.store 1 (.tmp 77) (.const (.bool true)), none, none⟩]
def o13_17 : List AOper := [⟨.move (.tmp 6), (some 78), none⟩,
  ⟨.move (.tmp 78), (some 4), none⟩,
  ⟨.move (.const (.int .i64 270)), (some 5), none⟩]
def o13_18 : List AOper := [⟨.move (.tmp 8), (some 79), none⟩,
  ⟨.bin .eql (.tmp 79) (.const (.int .i64 0)), (some 80), none⟩,
  ⟨.move (.tmp 80), (some 81), none⟩,
  ⟨.move (.tmp 0), (some 82), (some (81, false))⟩,
  ⟨.nilCheck (.tmp 82), (some 83), (some (81, false))⟩,
  ⟨.fieldAddr 0 (.tmp 83), (some 84), (some (81, false))⟩,
  ⟨.load none (.tmp 84), (some 85), (some (81, false))⟩,
  ⟨.bu .len [(.tmp 85)], (some 86), (some (81, false))⟩,
  ⟨.move (.tmp 8), (some 87), (some (81, false))⟩,
  ⟨.bin .lss (.tmp 86) (.tmp 87), (some 88), (some (81, false))⟩,
  ⟨.pick (.tmp 81) (.const (.bool true)) (.tmp 88), (some 89), none⟩]
def o13_19 : List AOper := [⟨.move (.tmp 6), (some 90), none⟩,
  ⟨.move (.tmp 90), (some 4), none⟩,
  ⟨.move (.const (.int .i64 0)), (some 5), none⟩]
def o13_20 : List AOper := [⟨.move (.tmp 6), (some 91), none⟩,
  ⟨.move (.tmp 0), (some 92), none⟩,
  ⟨.nilCheck (.tmp 92), (some 93), none⟩,
  ⟨.fieldAddr 0 (.tmp 93), (some 94), none⟩,
  ⟨.load none (.tmp 94), (some 95), none⟩,
  ⟨.move (.tmp 8), (some 96), none⟩,
  ⟨.slSl 1 (.tmp 95) none (some (.tmp 96)) none, (some 97), none⟩,
  ⟨.call (.func 33) [(.tmp 97)], (some 98), none⟩,
  ⟨.buildSlice 42 4 [(.float .f64 0), (.float .f64 0), (.slice none 0 0), (.slice none 0 0)] 1 [(0, (.tmp 98))], (some 99), none⟩,
  ⟨.append 42 64 4 [(.float .f64 0), (.float .f64 0), (.slice none 0 0), (.slice none 0 0)] (.tmp 91) (.tmp 99), (some 100), none⟩,
  ⟨.move (.tmp 100), (some 6), none⟩]
def o13_21 : List AOper := [⟨.move (.tmp 0), (some 101), none⟩,
  ⟨.buildSlice 5 1 [(.int .u8 0)] 0 [], (some 102), none⟩,
  ⟨.move (.tmp 0), (some 103), none⟩,
  ⟨.nilCheck (.tmp 103), (some 104), none⟩,
  ⟨.fieldAddr 0 (.tmp 104), (some 105), none⟩,
  ⟨.load none (.tmp 105), (some 106), none⟩,
  ⟨.move (.tmp 8), (some 107), none⟩,
  ⟨.slSl 1 (.tmp 106) (some (.tmp 107)) none none, (some 108), none⟩,
  ⟨.append 5 1 1 [(.int .u8 0)] (.tmp 102) (.tmp 108), (some 109), none⟩,
  ⟨.nilCheck (.tmp 101), (some 110), none⟩,
  ⟨.fieldAddr 0 (.tmp 110), (some 111), none⟩,
  ⟨.store 1 (.tmp 111) (.tmp 109), none, none⟩]
def b13_9 : ACode := (.block 1 (.seq (.ops o13_10) (.seq (.ops o13_11) (.seq (.seq (.ops o13_12) (.cond (.tmp 51) (.draw d13_13) .skip)) (.seq (.seq (.ops o13_14) (.cond (.tmp 71) (.seq (.ops o13_15) (.seq (.ops o13_16) (.seq (.ops o13_17) .ret))) .skip)) (.seq (.seq (.ops o13_18) (.cond (.tmp 89) (.seq (.ops o13_19) .ret) .skip)) (.seq (.ops o13_20) (.ops o13_21))))))))
def ir13 : AFn := ⟨112, [.tmp 4, .tmp 5], (.seq (.ops o13_0) (.seq (.seq (.ops o13_1) (.cond (.tmp 10) (.seq (.ops o13_2) .ret) .skip)) (.seq (.seq (.ops o13_3) (.cond (.tmp 13) (.seq (.ops o13_4) .ret) .skip)) (.seq (.seq (.ops o13_5) (.cond (.tmp 17) (.seq (.ops o13_6) .ret) .skip)) (.seq (.ops o13_7) (.seq (.ops o13_8) (.block 0 (.loop b13_9))))))))⟩
theorem ir13_eq : fnsOf Try.prog 13 = some ir13 := by kernel_rfl

/-! F14 lookout/lookoutref27.SameFrames -/
def o14_0 : List AOper := [⟨.move (.const (.bool false)), (some 4), none⟩]
def o14_1 : List AOper := [⟨.move (.tmp 0), (some 7), none⟩,
  ⟨.bu .len [(.tmp 7)], (some 8), none⟩,
  ⟨.move (.tmp 1), (some 9), none⟩,
  ⟨.bu .len [(.tmp 9)], (some 10), none⟩,
  ⟨.bin .neq (.tmp 8) (.tmp 10), (some 11), none⟩]
def o14_2 : List AOper := [⟨.move (.const (.bool false)), (some 4), none⟩]
def o14_3 : List AOper := [⟨.move (.const (.int .i64 0)), (some 5), none⟩]
def o14_5 : List AOper := [⟨.move (.tmp 5), (some 12), none⟩,
  ⟨.move (.tmp 0), (some 13), none⟩,
  ⟨.bu .len [(.tmp 13)], (some 14), none⟩,
  ⟨.bin .lss (.tmp 12) (.tmp 14), (some 15), none⟩]
def d14_6 : List DOper := [⟨⟨.move (.tmp 0), (some 18), none⟩, 0⟩,
  ⟨⟨.move (.tmp 5), (some 19), none⟩, 0⟩,
  ⟨⟨.addrSl 4 (.tmp 18) (.tmp 19), (some 20), none⟩, 3⟩,
  ⟨⟨.load (some 4) (.tmp 20), (some 21), none⟩, 7⟩,
  ⟨⟨.move (.tmp 1), (some 22), none⟩, 0⟩,
  ⟨⟨.move (.tmp 5), (some 23), none⟩, 0⟩,
  ⟨⟨.addrSl 4 (.tmp 22) (.tmp 23), (some 24), none⟩, 48⟩,
  ⟨⟨.load (some 4) (.tmp 24), (some 25), none⟩, 112⟩,
  ⟨⟨.call (.func 25) [(.tmp 21), (.tmp 25)], (some 26), none⟩, 255⟩,
  ⟨⟨.move (.tmp 26), (some 6), none⟩, 511⟩]
def o14_7 : List AOper := [⟨.move (.tmp 6), (some 27), none⟩,
  ⟨.un .not (.tmp 27), (some 28), none⟩]
def o14_8 : List AOper := [⟨.move (.const (.bool false)), (some 4), none⟩]
def o14_9 : List AOper := [⟨.move (.tmp 5), (some 16), none⟩,
  ⟨.bin .add (.tmp 16) (.const (.int .i64 1)), (some 17), none⟩,
  ⟨.move (.tmp 17), (some 5), none⟩]
def b14_4 : ACode := (.seq (.seq (.ops o14_5) (.cond (.tmp 15) .skip (.exit 0))) (.seq (.block 1 (.seq (.draw d14_6) (.seq (.ops o14_7) (.cond (.tmp 28) (.seq (.ops o14_8) .ret) .skip)))) (.ops o14_9)))
def o14_10 : List AOper := [⟨.move (.const (.bool true)), (some 4), none⟩]
def ir14 : AFn := ⟨29, [.tmp 4], (.seq (.ops o14_0) (.seq (.seq (.ops o14_1) (.cond (.tmp 11) (.seq (.ops o14_2) .ret) .skip)) (.seq (.seq (.ops o14_3) (.block 0 (.loop b14_4))) (.seq (.ops o14_10) .ret))))⟩
theorem ir14_eq : fnsOf Try.prog 14 = some ir14 := by kernel_rfl

/-! F15 lookout/lookoutlaw27.spoil -/
def o15_0 : List AOper := [⟨.box 42 (.tmp 0), (some 1), none⟩]
def o15_1 : List AOper := [⟨.move (.const (.int .i64 0)), (some 2), none⟩]
def o15_3 : List AOper := [⟨.move (.tmp 2), (some 6), none⟩,
  ⟨.fieldAddr 2 (.tmp 1), (some 7), none⟩,
  ⟨.load none (.tmp 7), (some 8), none⟩,
  ⟨.bu .len [(.tmp 8)], (some 9), none⟩,
  ⟨.bin .lss (.tmp 6) (.tmp 9), (some 10), none⟩]
def o15_4 : List AOper := [⟨.move (.const (.int .i64 0)), (some 3), none⟩]
def o15_6 : List AOper := [⟨.move (.tmp 3), (some 13), none⟩,
  ⟨.fieldAddr 2 (.tmp 1), (some 14), none⟩,
  ⟨.load none (.tmp 14), (some 15), none⟩,
  ⟨.move (.tmp 2), (some 16), none⟩,
  ⟨.addrSl 1 (.tmp 15) (.tmp 16), (some 17), none⟩,
  ⟨.load none (.tmp 17), (some 18), none⟩,
  ⟨.bu .len [(.tmp 18)], (some 19), none⟩,
  ⟨.bin .lss (.tmp 13) (.tmp 19), (some 20), none⟩]
def o15_7 : List AOper := [⟨.fieldAddr 2 (.tmp 1), (some 23), none⟩,
  ⟨.load none (.tmp 23), (some 24), none⟩,
  ⟨.move (.tmp 2), (some 25), none⟩,
  ⟨.addrSl 1 (.tmp 24) (.tmp 25), (some 26), none⟩,
  ⟨.load none (.tmp 26), (some 27), none⟩,
  ⟨.move (.tmp 3), (some 28), none⟩,
  ⟨.addrSl 1 (.tmp 27) (.tmp 28), (some 29), none⟩,
  ⟨.store 1 (.tmp 29) (.const (.int .i16 (-9))), none, none⟩]
def o15_8 : List AOper := [⟨.move (.tmp 3), (some 21), none⟩,
  ⟨.bin .add (.tmp 21) (.const (.int .i64 1)), (some 22), none⟩,
  ⟨.move (.tmp 22), (some 3), none⟩]
def b15_5 : ACode := (.seq (.seq (.ops o15_6) (.cond (.tmp 20) .skip (.exit 2))) (.seq (.block 3 (.ops o15_7)) (.ops o15_8)))
def d15_9 : List DOper := [⟨⟨.fieldAddr 2 (.tmp 1), (some 30), none⟩, 0⟩,
  ⟨⟨.load none (.tmp 30), (some 31), none⟩, 1⟩,
  ⟨⟨.move (.tmp 2), (some 32), none⟩, 0⟩,
  ⟨⟨.fieldAddr 2 (.tmp 1), (some 33), none⟩, 0⟩,
  ⟨⟨.load none (.tmp 33), (some 34), none⟩, 8⟩,
  ⟨⟨.move (.tmp 2), (some 35), none⟩, 0⟩,
  ⟨⟨.addrSl 1 (.tmp 34) (.tmp 35), (some 36), none⟩, 56⟩,
  ⟨⟨.load none (.tmp 36), (some 37), none⟩, 120⟩,
  ⟨⟨.buildSlice 68 1 [(.int .i16 0)] 2 [(0, (.const (.int .i16 (-8)))), (1, (.const (.int .i16 (-8))))], (some 38), none⟩, 0⟩,
  ⟨⟨.append 68 2 1 [(.int .i16 0)] (.tmp 37) (.tmp 38), (some 39), none⟩, 504⟩,
  ⟨⟨.addrSl 1 (.tmp 31) (.tmp 32), (some 40), none⟩, 1023⟩,
  ⟨⟨.store 1 (.tmp 40) (.tmp 39), none, none⟩, 2047⟩]
def o15_10 : List AOper := [⟨.move (.tmp 2), (some 11), none⟩,
  ⟨.bin .add (.tmp 11) (.const (.int .i64 1)), (some 12), none⟩,
  ⟨.move (.tmp 12), (some 2), none⟩]
def b15_2 : ACode := (.seq (.seq (.ops o15_3) (.cond (.tmp 10) .skip (.exit 0))) (.seq (.block 1 (.seq (.seq (.ops o15_4) (.block 2 (.loop b15_5))) (.draw d15_9))) (.ops o15_10)))
def o15_11 : List AOper := [⟨.move (.const (.int .i64 0)), (some 4), none⟩]
def o15_13 : List AOper := [⟨.move (.tmp 4), (some 41), none⟩,
  ⟨.fieldAddr 3 (.tmp 1), (some 42), none⟩,
  ⟨.load none (.tmp 42), (some 43), none⟩,
  ⟨.bu .len [(.tmp 43)], (some 44), none⟩,
  ⟨.bin .lss (.tmp 41) (.tmp 44), (some 45), none⟩]
def o15_14 : List AOper := [⟨.move (.const (.int .i64 0)), (some 5), none⟩]
def o15_16 : List AOper := [⟨.move (.tmp 5), (some 48), none⟩,
  ⟨.fieldAddr 3 (.tmp 1), (some 49), none⟩,
  ⟨.load none (.tmp 49), (some 50), none⟩,
  ⟨.move (.tmp 4), (some 51), none⟩,
  ⟨.addrSl 1 (.tmp 50) (.tmp 51), (some 52), none⟩,
  ⟨.load none (.tmp 52), (some 53), none⟩,
  ⟨.bu .len [(.tmp 53)], (some 54), none⟩,
  ⟨.bin .lss (.tmp 48) (.tmp 54), (some 55), none⟩]
def o15_17 : List AOper := [⟨.fieldAddr 3 (.tmp 1), (some 58), none⟩,
  ⟨.load none (.tmp 58), (some 59), none⟩,
  ⟨.move (.tmp 4), (some 60), none⟩,
  ⟨.addrSl 1 (.tmp 59) (.tmp 60), (some 61), none⟩,
  ⟨.load none (.tmp 61), (some 62), none⟩,
  ⟨.move (.tmp 5), (some 63), none⟩,
  ⟨.addrSl 1 (.tmp 62) (.tmp 63), (some 64), none⟩,
  ⟨.store 1 (.tmp 64) (.const (.int .i16 (-7))), none, none⟩]
def o15_18 : List AOper := [⟨.move (.tmp 5), (some 56), none⟩,
  ⟨.bin .add (.tmp 56) (.const (.int .i64 1)), (some 57), none⟩,
  ⟨.move (.tmp 57), (some 5), none⟩]
def b15_15 : ACode := (.seq (.seq (.ops o15_16) (.cond (.tmp 55) .skip (.exit 6))) (.seq (.block 7 (.ops o15_17)) (.ops o15_18)))
def d15_19 : List DOper := [⟨⟨.fieldAddr 3 (.tmp 1), (some 65), none⟩, 0⟩,
  ⟨⟨.load none (.tmp 65), (some 66), none⟩, 1⟩,
  ⟨⟨.move (.tmp 4), (some 67), none⟩, 0⟩,
  ⟨⟨.fieldAddr 3 (.tmp 1), (some 68), none⟩, 0⟩,
  ⟨⟨.load none (.tmp 68), (some 69), none⟩, 8⟩,
  ⟨⟨.move (.tmp 4), (some 70), none⟩, 0⟩,
  ⟨⟨.addrSl 1 (.tmp 69) (.tmp 70), (some 71), none⟩, 56⟩,
  ⟨⟨.load none (.tmp 71), (some 72), none⟩, 120⟩,
  ⟨⟨.buildSlice 68 1 [(.int .i16 0)] 2 [(0, (.const (.int .i16 (-6)))), (1, (.const (.int .i16 (-6))))], (some 73), none⟩, 0⟩,
  ⟨⟨.append 68 2 1 [(.int .i16 0)] (.tmp 72) (.tmp 73), (some 74), none⟩, 504⟩,
  ⟨⟨.addrSl 1 (.tmp 66) (.tmp 67), (some 75), none⟩, 1023⟩,
  ⟨⟨.store 1 (.tmp 75) (.tmp 74), none, none⟩, 2047⟩]
def o15_20 : List AOper := [⟨.move (.tmp 4), (some 46), none⟩,
  ⟨.bin .add (.tmp 46) (.const (.int .i64 1)), (some 47), none⟩,
  ⟨.move (.tmp 47), (some 4), none⟩]
def b15_12 : ACode := (.seq (.seq (.ops o15_13) (.cond (.tmp 45) .skip (.exit 4))) (.seq (.block 5 (.seq (.seq (.ops o15_14) (.block 6 (.loop b15_15))) (.draw d15_19))) (.ops o15_20)))
def ir15 : AFn := ⟨76, [], (.seq (.ops o15_0) (.seq (.seq (.ops o15_1) (.block 0 (.loop b15_2))) (.seq (.ops o15_11) (.block 4 (.loop b15_12)))))⟩
theorem ir15_eq : fnsOf Try.prog 15 = some ir15 := by kernel_rfl

/-! F16 (*lookout/tape.Reader).Held -/
def o16_0 : List AOper := [⟨.move (.const (.int .i64 0)), (some 2), none⟩]
def o16_1 : List AOper := [⟨.move (.tmp 0), (some 3), none⟩,
  ⟨.eq false .ptr (.tmp 3) (.const (.pointer none)), (some 4), none⟩]
def o16_2 : List AOper := [⟨.move (.const (.int .i64 0)), (some 2), none⟩]
def o16_3 : List AOper := [⟨.move (.tmp 0), (some 5), none⟩,
  ⟨.nilCheck (.tmp 5), (some 6), none⟩,
  ⟨.fieldAddr 0 (.tmp 6), (some 7), none⟩,
  ⟨.load none (.tmp 7), (some 8), none⟩,
  ⟨.bu .len [(.tmp 8)], (some 9), none⟩,
  ⟨.move (.tmp 9), (some 2), none⟩]
def ir16 : AFn := ⟨10, [.tmp 2], (.seq (.ops o16_0) (.seq (.seq (.ops o16_1) (.cond (.tmp 4) (.seq (.ops o16_2) .ret) .skip)) (.seq (.ops o16_3) .ret)))⟩
theorem ir16_eq : fnsOf Try.prog 16 = some ir16 := by kernel_rfl

/-! F17 (*lookout/lookoutref27.Reader).Held -/
def o17_0 : List AOper := [⟨.move (.const (.int .i64 0)), (some 2), none⟩]
def o17_1 : List AOper := [⟨.move (.tmp 0), (some 3), none⟩,
  ⟨.eq false .ptr (.tmp 3) (.const (.pointer none)), (some 4), none⟩]
def o17_2 : List AOper := [⟨.move (.const (.int .i64 0)), (some 2), none⟩]
def o17_3 : List AOper := [⟨.move (.tmp 0), (some 5), none⟩,
  ⟨.nilCheck (.tmp 5), (some 6), none⟩,
  ⟨.fieldAddr 0 (.tmp 6), (some 7), none⟩,
  ⟨.load none (.tmp 7), (some 8), none⟩,
  ⟨.bu .len [(.tmp 8)], (some 9), none⟩,
  ⟨.move (.tmp 9), (some 2), none⟩]
def ir17 : AFn := ⟨10, [.tmp 2], (.seq (.ops o17_0) (.seq (.seq (.ops o17_1) (.cond (.tmp 4) (.seq (.ops o17_2) .ret) .skip)) (.seq (.ops o17_3) .ret)))⟩
theorem ir17_eq : fnsOf Try.prog 17 = some ir17 := by kernel_rfl

/-! F18 lookout/tape.Write -/
def o18_0 : List AOper := [⟨.box 42 (.tmp 0), (some 1), none⟩,
  ⟨.move (.const (.slice none 0 0)), (some 2), none⟩,
  ⟨.move (.const (.int .i64 0)), (some 3), none⟩]
def o18_1 : List AOper := [⟨.load (some 4) (.tmp 1), (some 10), none⟩,
  ⟨.call (.func 34) [(.tmp 10)], (some 11), none⟩,
  ⟨.move (.tmp 11), (some 9), none⟩,
  ⟨.extract (.tmp 9) 0, (some 12), none⟩,
  ⟨.extract (.tmp 9) 1, (some 13), none⟩,
  ⟨.move (.tmp 12), (some 4), none⟩,
  ⟨.move (.tmp 13), (some 5), none⟩]
def o18_2 : List AOper := [⟨.move (.tmp 5), (some 14), none⟩,
  ⟨.bin .neq (.tmp 14) (.const (.int .i64 0)), (some 15), none⟩]
def o18_3 : List AOper := [⟨.move (.tmp 5), (some 16), none⟩,
  ⟨.move (.const (.slice none 0 0)), (some 2), none⟩,
  ⟨.move (.tmp 16), (some 3), none⟩]
def o18_4 : List AOper := [⟨.fieldAddr 2 (.tmp 1), (some 17), none⟩,
  ⟨.load none (.tmp 17), (some 18), none⟩,
  ⟨.bu .len [(.tmp 18)], (some 19), none⟩,
  ⟨.bin .mul (.const (.int .i64 4)) (.tmp 19), (some 20), none⟩,
  ⟨.move (.tmp 4), (some 21), none⟩,
  ⟨.bin .mul (.tmp 20) (.tmp 21), (some 22), none⟩,
  ⟨.bin .add (.const (.int .i64 31)) (.tmp 22), (some 23), none⟩,
  ⟨.makeSlice 5 1 1 [(.int .u8 0)] (.const (.int .i64 0)) (.tmp 23), (some 24), none⟩,
  ⟨.append 5 1 1 [(.int .u8 0)] (.tmp 24) (.const (.string ⟨#[76, 75, 49]⟩)), (some 25), none⟩,
  ⟨.move (.tmp 25), (some 6), none⟩]
def o18_5 : List AOper := [⟨.move (.tmp 6), (some 26), none⟩,
  ⟨.fieldAddr 2 (.tmp 1), (some 27), none⟩,
  ⟨.load none (.tmp 27), (some 28), none⟩,
  ⟨.bu .len [(.tmp 28)], (some 29), none⟩,
  ⟨.bin .mul (.const (.int .i64 4)) (.tmp 29), (some 30), none⟩,
  ⟨.move (.tmp 4), (some 31), none⟩,
  ⟨.bin .mul (.tmp 30) (.tmp 31), (some 32), none⟩,
  ⟨.bin .add (.const (.int .i64 20)) (.tmp 32), (some 33), none⟩,
  ⟨.conv (.toInt .u64) (.tmp 33), (some 34), none⟩,
  ⟨.call (.func 35) [(.tmp 26), (.tmp 34), (.const (.int .i64 4))], (some 35), none⟩,
  ⟨.move (.tmp 35), (some 6), none⟩]
def d18_6 : List DOper := [⟨⟨.move (.tmp 6), (some 36), none⟩, 0⟩,
  ⟨⟨.fieldAddr 0 (.tmp 1), (some 37), none⟩, 0⟩,
  ⟨⟨.load none (.tmp 37), (some 38), none⟩, 2⟩,
  ⟨⟨.ext 0 36 [(.tmp 38)], (some 39), none⟩, 6⟩,
  ⟨⟨.call (.func 35) [(.tmp 36), (.tmp 39), (.const (.int .i64 8))], (some 40), none⟩, 15⟩,
  ⟨⟨.fieldAddr 1 (.tmp 1), (some 41), none⟩, 0⟩,
  ⟨⟨.load none (.tmp 41), (some 42), none⟩, 32⟩,
  ⟨⟨.ext 0 36 [(.tmp 42)], (some 43), none⟩, 127⟩,
  ⟨⟨.call (.func 35) [(.tmp 40), (.tmp 43), (.const (.int .i64 8))], (some 44), none⟩, 255⟩,
  ⟨⟨.move (.tmp 44), (some 6), none⟩, 511⟩]
def o18_7 : List AOper := [⟨.move (.tmp 6), (some 45), none⟩,
  ⟨.fieldAddr 2 (.tmp 1), (some 46), none⟩,
  ⟨.load none (.tmp 46), (some 47), none⟩,
  ⟨.bu .len [(.tmp 47)], (some 48), none⟩,
  ⟨.conv (.toInt .u64) (.tmp 48), (some 49), none⟩,
  ⟨.call (.func 35) [(.tmp 45), (.tmp 49), (.const (.int .i64 2))], (some 50), none⟩,
  ⟨.move (.tmp 4), (some 51), none⟩,
  ⟨.conv (.toInt .u64) (.tmp 51), (some 52), none⟩,
  ⟨.call (.func 35) [(.tmp 50), (.tmp 52), (.const (.int .i64 2))], (some 53), none⟩,
  ⟨.move (.tmp 53), (some 6), none⟩]
def o18_8 : List AOper := [⟨.fieldAddr 2 (.tmp 1), (some 54), none⟩,
  ⟨.load none (.tmp 54), (some 55), none⟩,
  ⟨.bu .len [(.tmp 55)], (some 56), none⟩,
  ⟨.move (.const (.int .i64 0)), (some 57), none⟩]
def o18_10 : List AOper := [⟨.bin .lss (.tmp 57) (.tmp 56), (some 58), none⟩]
def o18_11 : List AOper := [⟨.move (.tmp 57), (some 59), none⟩,
  ⟨.move (.tmp 59), (some 7), none⟩]
def o18_12 : List AOper := [⟨.move (.tmp 4), (some 60), none⟩,
  ⟨.move (.const (.int .i64 0)), (some 61), none⟩]
def o18_14 : List AOper := [⟨.bin .lss (.tmp 61) (.tmp 60), (some 62), none⟩]
def o18_15 : List AOper := [⟨.move (.tmp 61), (some 63), none⟩,
  ⟨.move (.tmp 63), (some 8), none⟩]
def d18_16 : List DOper := [⟨⟨.move (.tmp 6), (some 64), none⟩, 0⟩,
  ⟨⟨.fieldAddr 2 (.tmp 1), (some 65), none⟩, 0⟩,
  ⟨⟨.load none (.tmp 65), (some 66), none⟩, 2⟩,
  ⟨⟨.move (.tmp 7), (some 67), none⟩, 0⟩,
  ⟨⟨.addrSl 1 (.tmp 66) (.tmp 67), (some 68), none⟩, 14⟩,
  ⟨⟨.load none (.tmp 68), (some 69), none⟩, 30⟩,
  ⟨⟨.move (.tmp 8), (some 70), none⟩, 0⟩,
  ⟨⟨.addrSl 1 (.tmp 69) (.tmp 70), (some 71), none⟩, 126⟩,
  ⟨⟨.load none (.tmp 71), (some 72), none⟩, 254⟩,
  ⟨⟨.conv (.toInt .u16) (.tmp 72), (some 73), none⟩, 510⟩,
  ⟨⟨.conv (.toInt .u64) (.tmp 73), (some 74), none⟩, 1022⟩,
  ⟨⟨.call (.func 35) [(.tmp 64), (.tmp 74), (.const (.int .i64 2))], (some 75), none⟩, 2047⟩,
  ⟨⟨.fieldAddr 3 (.tmp 1), (some 76), none⟩, 0⟩,
  ⟨⟨.load none (.tmp 76), (some 77), none⟩, 4096⟩,
  ⟨⟨.move (.tmp 7), (some 78), none⟩, 0⟩,
  ⟨⟨.addrSl 1 (.tmp 77) (.tmp 78), (some 79), none⟩, 28672⟩,
  ⟨⟨.load none (.tmp 79), (some 80), none⟩, 61440⟩,
  ⟨⟨.move (.tmp 8), (some 81), none⟩, 0⟩,
  ⟨⟨.addrSl 1 (.tmp 80) (.tmp 81), (some 82), none⟩, 258048⟩,
  ⟨⟨.load none (.tmp 82), (some 83), none⟩, 520192⟩,
  ⟨⟨.conv (.toInt .u16) (.tmp 83), (some 84), none⟩, 1044480⟩,
  ⟨⟨.conv (.toInt .u64) (.tmp 84), (some 85), none⟩, 2093056⟩,
  ⟨⟨.call (.func 35) [(.tmp 75), (.tmp 85), (.const (.int .i64 2))], (some 86), none⟩, 4194303⟩,
  ⟨⟨.move (.tmp 86), (some 6), none⟩, 8388607⟩]
def o18_17 : List AOper := [⟨.bin .add (.tmp 61) (.const (.int .i64 1)), (some 87), none⟩,
  ⟨.move (.tmp 87), (some 61), none⟩]
def b18_13 : ACode := (.seq (.ops o18_14) (.seq (.cond (.tmp 62) .skip (.exit 2)) (.seq (.block 3 (.seq (.ops o18_15) (.draw d18_16))) (.ops o18_17))))
def o18_18 : List AOper := [⟨.bin .add (.tmp 57) (.const (.int .i64 1)), (some 88), none⟩,
  ⟨.move (.tmp 88), (some 57), none⟩]
def b18_9 : ACode := (.seq (.ops o18_10) (.seq (.cond (.tmp 58) .skip (.exit 0)) (.seq (.block 1 (.seq (.ops o18_11) (.seq (.ops o18_12) (.block 2 (.loop b18_13))))) (.ops o18_18))))
def o18_19 : List AOper := [⟨.move (.tmp 6), (some 89), none⟩,
  ⟨.move (.tmp 6), (some 90), none⟩,
  ⟨.call (.func 37) [(.tmp 90)], (some 91), none⟩,
  ⟨.conv (.toInt .u64) (.tmp 91), (some 92), none⟩,
  ⟨.call (.func 35) [(.tmp 89), (.tmp 92), (.const (.int .i64 4))], (some 93), none⟩,
  ⟨.move (.tmp 93), (some 2), none⟩,
  ⟨.move (.const (.int .i64 0)), (some 3), none⟩]
def ir18 : AFn := ⟨94, [.tmp 2, .tmp 3], (.seq (.ops o18_0) (.seq (.ops o18_1) (.seq (.seq (.ops o18_2) (.cond (.tmp 15) (.seq (.ops o18_3) .ret) .skip)) (.seq (.ops o18_4) (.seq (.ops o18_5) (.seq (.draw d18_6) (.seq (.ops o18_7) (.seq (.seq (.ops o18_8) (.block 0 (.loop b18_9))) (.seq (.ops o18_19) .ret)))))))))⟩
theorem ir18_eq : fnsOf Try.prog 18 = some ir18 := by kernel_rfl

/-! F19 lookout/lookoutlaw27.twin -/
def o19_0 : List AOper := [⟨.box 42 (.tmp 0), (some 1), none⟩,
  ⟨.alloc 42 [(.float .f64 0), (.float .f64 0), (.slice none 0 0), (.slice none 0 0)], (some 2), none⟩]
def o19_1 : List AOper := [⟨.fieldAddr 0 (.tmp 1), (some 6), none⟩,
  ⟨.load none (.tmp 6), (some 7), none⟩,
  ⟨.fieldAddr 1 (.tmp 1), (some 8), none⟩,
  ⟨.load none (.tmp 8), (some 9), none⟩,
  ⟨.build [(.float .f64 0), (.float .f64 0), (.slice none 0 0), (.slice none 0 0)] [(0, 1, (.tmp 7)), (1, 1, (.tmp 9))], (some 10), none⟩,
  ⟨.alloc 42 [(.float .f64 0), (.float .f64 0), (.slice none 0 0), (.slice none 0 0)], (some 3), none⟩,
  ⟨.store 4 (.tmp 3) (.tmp 10), none, none⟩]
def o19_2 : List AOper := [⟨.move (.const (.int .i64 0)), (some 4), none⟩]
def o19_4 : List AOper := [⟨.move (.tmp 4), (some 11), none⟩,
  ⟨.fieldAddr 2 (.tmp 1), (some 12), none⟩,
  ⟨.load none (.tmp 12), (some 13), none⟩,
  ⟨.bu .len [(.tmp 13)], (some 14), none⟩,
  ⟨.bin .lss (.tmp 11) (.tmp 14), (some 15), none⟩]
def d19_5 : List DOper := [⟨⟨.fieldAddr 2 (.tmp 3), (some 18), none⟩, 0⟩,
  ⟨⟨.load none (.tmp 18), (some 19), none⟩, 1⟩,
  ⟨⟨.buildSlice 68 1 [(.int .i16 0)] 0 [], (some 20), none⟩, 0⟩,
  ⟨⟨.fieldAddr 2 (.tmp 1), (some 21), none⟩, 0⟩,
  ⟨⟨.load none (.tmp 21), (some 22), none⟩, 8⟩,
  ⟨⟨.move (.tmp 4), (some 23), none⟩, 0⟩,
  ⟨⟨.addrSl 1 (.tmp 22) (.tmp 23), (some 24), none⟩, 56⟩,
  ⟨⟨.load none (.tmp 24), (some 25), none⟩, 120⟩,
  ⟨⟨.append 68 2 1 [(.int .i16 0)] (.tmp 20) (.tmp 25), (some 26), none⟩, 252⟩,
  ⟨⟨.buildSlice 67 1 [(.slice none 0 0)] 1 [(0, (.tmp 26))], (some 27), none⟩, 508⟩,
  ⟨⟨.append 67 24 1 [(.slice none 0 0)] (.tmp 19) (.tmp 27), (some 28), none⟩, 1023⟩,
  ⟨⟨.fieldAddr 2 (.tmp 3), (some 29), none⟩, 2047⟩,
  ⟨⟨.store 1 (.tmp 29) (.tmp 28), none, none⟩, 4095⟩]
def o19_6 : List AOper := [⟨.move (.tmp 4), (some 16), none⟩,
  ⟨.bin .add (.tmp 16) (.const (.int .i64 1)), (some 17), none⟩,
  ⟨.move (.tmp 17), (some 4), none⟩]
def b19_3 : ACode := (.seq (.seq (.ops o19_4) (.cond (.tmp 15) .skip (.exit 0))) (.seq (.block 1 (.draw d19_5)) (.ops o19_6)))
def o19_7 : List AOper := [⟨.move (.const (.int .i64 0)), (some 5), none⟩]
def o19_9 : List AOper := [⟨.move (.tmp 5), (some 30), none⟩,
  ⟨.fieldAddr 3 (.tmp 1), (some 31), none⟩,
  ⟨.load none (.tmp 31), (some 32), none⟩,
  ⟨.bu .len [(.tmp 32)], (some 33), none⟩,
  ⟨.bin .lss (.tmp 30) (.tmp 33), (some 34), none⟩]
def d19_10 : List DOper := [⟨⟨.fieldAddr 3 (.tmp 3), (some 37), none⟩, 0⟩,
  ⟨⟨.load none (.tmp 37), (some 38), none⟩, 1⟩,
  ⟨⟨.buildSlice 68 1 [(.int .i16 0)] 0 [], (some 39), none⟩, 0⟩,
  ⟨⟨.fieldAddr 3 (.tmp 1), (some 40), none⟩, 0⟩,
  ⟨⟨.load none (.tmp 40), (some 41), none⟩, 8⟩,
  ⟨⟨.move (.tmp 5), (some 42), none⟩, 0⟩,
  ⟨⟨.addrSl 1 (.tmp 41) (.tmp 42), (some 43), none⟩, 56⟩,
  ⟨⟨.load none (.tmp 43), (some 44), none⟩, 120⟩,
  ⟨⟨.append 68 2 1 [(.int .i16 0)] (.tmp 39) (.tmp 44), (some 45), none⟩, 252⟩,
  ⟨⟨.buildSlice 67 1 [(.slice none 0 0)] 1 [(0, (.tmp 45))], (some 46), none⟩, 508⟩,
  ⟨⟨.append 67 24 1 [(.slice none 0 0)] (.tmp 38) (.tmp 46), (some 47), none⟩, 1023⟩,
  ⟨⟨.fieldAddr 3 (.tmp 3), (some 48), none⟩, 2047⟩,
  ⟨⟨.store 1 (.tmp 48) (.tmp 47), none, none⟩, 4095⟩]
def o19_11 : List AOper := [⟨.move (.tmp 5), (some 35), none⟩,
  ⟨.bin .add (.tmp 35) (.const (.int .i64 1)), (some 36), none⟩,
  ⟨.move (.tmp 36), (some 5), none⟩]
def b19_8 : ACode := (.seq (.seq (.ops o19_9) (.cond (.tmp 34) .skip (.exit 2))) (.seq (.block 3 (.draw d19_10)) (.ops o19_11)))
def o19_12 : List AOper := [⟨.load (some 4) (.tmp 3), (some 49), none⟩,
  ⟨.store 4 (.tmp 2) (.tmp 49), none, none⟩]
def ir19 : AFn := ⟨50, [.cell 2 (some 4)], (.seq (.ops o19_0) (.seq (.ops o19_1) (.seq (.seq (.ops o19_2) (.block 0 (.loop b19_3))) (.seq (.seq (.ops o19_7) (.block 2 (.loop b19_8))) (.seq (.ops o19_12) .ret)))))⟩
theorem ir19_eq : fnsOf Try.prog 19 = some ir19 := by kernel_rfl

/-! F20 lookout/tape.Rows -/
def o20_0 : List AOper := [⟨.box 42 (.tmp 0), (some 1), none⟩,
  ⟨.move (.const (.slice none 0 0)), (some 2), none⟩,
  ⟨.move (.const (.int .i64 0)), (some 3), none⟩]
def o20_1 : List AOper := [⟨.load (some 4) (.tmp 1), (some 10), none⟩,
  ⟨.call (.func 34) [(.tmp 10)], (some 11), none⟩,
  ⟨.move (.tmp 11), (some 9), none⟩,
  ⟨.extract (.tmp 9) 0, (some 12), none⟩,
  ⟨.extract (.tmp 9) 1, (some 13), none⟩,
  ⟨.move (.tmp 12), (some 4), none⟩,
  ⟨.move (.tmp 13), (some 5), none⟩]
def o20_2 : List AOper := [⟨.move (.tmp 5), (some 14), none⟩,
  ⟨.bin .neq (.tmp 14) (.const (.int .i64 0)), (some 15), none⟩]
def o20_3 : List AOper := [⟨.move (.tmp 5), (some 16), none⟩,
  ⟨.move (.const (.slice none 0 0)), (some 2), none⟩,
  ⟨.move (.tmp 16), (some 3), none⟩]
def o20_4 : List AOper := [⟨.fieldAddr 2 (.tmp 1), (some 17), none⟩,
  ⟨.load none (.tmp 17), (some 18), none⟩,
  ⟨.bu .len [(.tmp 18)], (some 19), none⟩,
  ⟨.makeSlice 66 24 1 [(.slice none 0 0)] (.tmp 19) (.tmp 19), (some 20), none⟩,
  ⟨.move (.tmp 20), (some 6), none⟩]
def o20_5 : List AOper := [⟨.move (.tmp 6), (some 21), none⟩,
  ⟨.bu .len [(.tmp 21)], (some 22), none⟩,
  ⟨.move (.const (.int .i64 0)), (some 23), none⟩]
def o20_7 : List AOper := [⟨.bin .lss (.tmp 23) (.tmp 22), (some 24), none⟩]
def o20_8 : List AOper := [⟨.move (.tmp 23), (some 25), none⟩,
  ⟨.move (.tmp 25), (some 7), none⟩]
def o20_9 : List AOper := [⟨.move (.tmp 6), (some 26), none⟩,
  ⟨.move (.tmp 7), (some 27), none⟩,
  ⟨.move (.tmp 4), (some 28), none⟩,
  ⟨.makeSlice 65 16 1 [(.complex .f64 0 0)] (.tmp 28) (.tmp 28), (some 29), none⟩,
  ⟨.addrSl 1 (.tmp 26) (.tmp 27), (some 30), none⟩,
  ⟨.store 1 (.tmp 30) (.tmp 29), none, none⟩]
def o20_10 : List AOper := [⟨.move (.tmp 4), (some 31), none⟩,
  ⟨.move (.const (.int .i64 0)), (some 32), none⟩]
def o20_12 : List AOper := [⟨.bin .lss (.tmp 32) (.tmp 31), (some 33), none⟩]
def o20_13 : List AOper := [⟨.move (.tmp 32), (some 34), none⟩,
  ⟨.move (.tmp 34), (some 8), none⟩]
def d20_14 : List DOper := [⟨⟨.move (.tmp 6), (some 35), none⟩, 0⟩,
  ⟨⟨.move (.tmp 7), (some 36), none⟩, 0⟩,
  ⟨⟨.addrSl 1 (.tmp 35) (.tmp 36), (some 37), none⟩, 3⟩,
  ⟨⟨.load none (.tmp 37), (some 38), none⟩, 7⟩,
  ⟨⟨.move (.tmp 8), (some 39), none⟩, 0⟩,
  ⟨⟨.fieldAddr 2 (.tmp 1), (some 40), none⟩, 0⟩,
  ⟨⟨.load none (.tmp 40), (some 41), none⟩, 32⟩,
  ⟨⟨.move (.tmp 7), (some 42), none⟩, 0⟩,
  ⟨⟨.addrSl 1 (.tmp 41) (.tmp 42), (some 43), none⟩, 224⟩,
  ⟨⟨.load none (.tmp 43), (some 44), none⟩, 480⟩,
  ⟨⟨.move (.tmp 8), (some 45), none⟩, 0⟩,
  ⟨⟨.addrSl 1 (.tmp 44) (.tmp 45), (some 46), none⟩, 2016⟩,
  ⟨⟨.load none (.tmp 46), (some 47), none⟩, 4064⟩,
  ⟨⟨.conv (.toFloat .f64) (.tmp 47), (some 48), none⟩, 8160⟩,
  ⟨⟨.fieldAddr 1 (.tmp 1), (some 49), none⟩, 0⟩,
  ⟨⟨.load none (.tmp 49), (some 50), none⟩, 16384⟩,
  ⟨⟨.bin .mul (.tmp 48) (.tmp 50), (some 51), none⟩, 65504⟩,
  ⟨⟨.fieldAddr 3 (.tmp 1), (some 52), none⟩, 0⟩,
  ⟨⟨.load none (.tmp 52), (some 53), none⟩, 131072⟩,
  ⟨⟨.move (.tmp 7), (some 54), none⟩, 0⟩,
  ⟨⟨.addrSl 1 (.tmp 53) (.tmp 54), (some 55), none⟩, 917504⟩,
  ⟨⟨.load none (.tmp 55), (some 56), none⟩, 1966080⟩,
  ⟨⟨.move (.tmp 8), (some 57), none⟩, 0⟩,
  ⟨⟨.addrSl 1 (.tmp 56) (.tmp 57), (some 58), none⟩, 8257536⟩,
  ⟨⟨.load none (.tmp 58), (some 59), none⟩, 16646144⟩,
  ⟨⟨.conv (.toFloat .f64) (.tmp 59), (some 60), none⟩, 33423360⟩,
  ⟨⟨.fieldAddr 1 (.tmp 1), (some 61), none⟩, 0⟩,
  ⟨⟨.load none (.tmp 61), (some 62), none⟩, 67108864⟩,
  ⟨⟨.bin .mul (.tmp 60) (.tmp 62), (some 63), none⟩, 268304384⟩,
  ⟨⟨.bu .complex [(.tmp 51), (.tmp 63)], (some 64), none⟩, 536870880⟩,
  ⟨⟨.addrSl 1 (.tmp 38) (.tmp 39), (some 65), none⟩, 1073741823⟩,
  ⟨⟨.store 1 (.tmp 65) (.tmp 64), none, none⟩, 2147483647⟩]
def o20_15 : List AOper := [⟨.bin .add (.tmp 32) (.const (.int .i64 1)), (some 66), none⟩,
  ⟨.move (.tmp 66), (some 32), none⟩]
def b20_11 : ACode := (.seq (.ops o20_12) (.seq (.cond (.tmp 33) .skip (.exit 2)) (.seq (.block 3 (.seq (.ops o20_13) (.draw d20_14))) (.ops o20_15))))
def o20_16 : List AOper := [⟨.bin .add (.tmp 23) (.const (.int .i64 1)), (some 67), none⟩,
  ⟨.move (.tmp 67), (some 23), none⟩]
def b20_6 : ACode := (.seq (.ops o20_7) (.seq (.cond (.tmp 24) .skip (.exit 0)) (.seq (.block 1 (.seq (.ops o20_8) (.seq (.ops o20_9) (.seq (.ops o20_10) (.block 2 (.loop b20_11)))))) (.ops o20_16))))
def o20_17 : List AOper := [⟨.move (.tmp 6), (some 68), none⟩,
  ⟨.move (.tmp 68), (some 2), none⟩,
  ⟨.move (.const (.int .i64 0)), (some 3), none⟩]
def ir20 : AFn := ⟨69, [.tmp 2, .tmp 3], (.seq (.ops o20_0) (.seq (.ops o20_1) (.seq (.seq (.ops o20_2) (.cond (.tmp 15) (.seq (.ops o20_3) .ret) .skip)) (.seq (.ops o20_4) (.seq (.seq (.ops o20_5) (.block 0 (.loop b20_6))) (.seq (.ops o20_17) .ret))))))⟩
theorem ir20_eq : fnsOf Try.prog 20 = some ir20 := by kernel_rfl

/-! F21 lookout/lookoutref27.Rows -/
def o21_0 : List AOper := [⟨.box 42 (.tmp 0), (some 1), none⟩,
  ⟨.move (.const (.slice none 0 0)), (some 2), none⟩,
  ⟨.move (.const (.int .i64 0)), (some 3), none⟩]
def o21_1 : List AOper := [⟨.load (some 4) (.tmp 1), (some 9), none⟩,
  ⟨.call (.func 38) [(.tmp 9)], (some 10), none⟩,
  ⟨.move (.tmp 10), (some 4), none⟩]
def o21_2 : List AOper := [⟨.move (.tmp 4), (some 11), none⟩,
  ⟨.bin .neq (.tmp 11) (.const (.int .i64 0)), (some 12), none⟩]
def o21_3 : List AOper := [⟨.move (.tmp 4), (some 13), none⟩,
  ⟨.move (.const (.slice none 0 0)), (some 2), none⟩,
  ⟨.move (.tmp 13), (some 3), none⟩]
def o21_4 : List AOper := [⟨.move (.const (.slice none 0 0)), (some 5), none⟩]
def o21_5 : List AOper := [⟨.move (.const (.int .i64 0)), (some 6), none⟩]
def o21_7 : List AOper := [⟨.move (.tmp 6), (some 14), none⟩,
  ⟨.fieldAddr 2 (.tmp 1), (some 15), none⟩,
  ⟨.load none (.tmp 15), (some 16), none⟩,
  ⟨.bu .len [(.tmp 16)], (some 17), none⟩,
  ⟨.bin .lss (.tmp 14) (.tmp 17), (some 18), none⟩]
def o21_8 : List AOper := [⟨.move (.const (.slice none 0 0)), (some 7), none⟩]
def o21_9 : List AOper := [⟨.move (.const (.int .i64 0)), (some 8), none⟩]
def o21_11 : List AOper := [⟨.move (.tmp 8), (some 21), none⟩,
  ⟨.fieldAddr 2 (.tmp 1), (some 22), none⟩,
  ⟨.load none (.tmp 22), (some 23), none⟩,
  ⟨.move (.tmp 6), (some 24), none⟩,
  ⟨.addrSl 1 (.tmp 23) (.tmp 24), (some 25), none⟩,
  ⟨.load none (.tmp 25), (some 26), none⟩,
  ⟨.bu .len [(.tmp 26)], (some 27), none⟩,
  ⟨.bin .lss (.tmp 21) (.tmp 27), (some 28), none⟩]
def d21_12 : List DOper := [⟨⟨.move (.tmp 7), (some 31), none⟩, 0⟩,
  ⟨⟨.fieldAddr 2 (.tmp 1), (some 32), none⟩, 0⟩,
  ⟨⟨.load none (.tmp 32), (some 33), none⟩, 2⟩,
  ⟨⟨.move (.tmp 6), (some 34), none⟩, 0⟩,
  ⟨⟨.addrSl 1 (.tmp 33) (.tmp 34), (some 35), none⟩, 14⟩,
  ⟨⟨.load none (.tmp 35), (some 36), none⟩, 30⟩,
  ⟨⟨.move (.tmp 8), (some 37), none⟩, 0⟩,
  ⟨⟨.addrSl 1 (.tmp 36) (.tmp 37), (some 38), none⟩, 126⟩,
  ⟨⟨.load none (.tmp 38), (some 39), none⟩, 254⟩,
  ⟨⟨.conv (.toFloat .f64) (.tmp 39), (some 40), none⟩, 510⟩,
  ⟨⟨.fieldAddr 1 (.tmp 1), (some 41), none⟩, 0⟩,
  ⟨⟨.load none (.tmp 41), (some 42), none⟩, 1024⟩,
  ⟨⟨.bin .mul (.tmp 40) (.tmp 42), (some 43), none⟩, 4094⟩,
  ⟨⟨.fieldAddr 3 (.tmp 1), (some 44), none⟩, 0⟩,
  ⟨⟨.load none (.tmp 44), (some 45), none⟩, 8192⟩,
  ⟨⟨.move (.tmp 6), (some 46), none⟩, 0⟩,
  ⟨⟨.addrSl 1 (.tmp 45) (.tmp 46), (some 47), none⟩, 57344⟩,
  ⟨⟨.load none (.tmp 47), (some 48), none⟩, 122880⟩,
  ⟨⟨.move (.tmp 8), (some 49), none⟩, 0⟩,
  ⟨⟨.addrSl 1 (.tmp 48) (.tmp 49), (some 50), none⟩, 516096⟩,
  ⟨⟨.load none (.tmp 50), (some 51), none⟩, 1040384⟩,
  ⟨⟨.conv (.toFloat .f64) (.tmp 51), (some 52), none⟩, 2088960⟩,
  ⟨⟨.fieldAddr 1 (.tmp 1), (some 53), none⟩, 0⟩,
  ⟨⟨.load none (.tmp 53), (some 54), none⟩, 4194304⟩,
  ⟨⟨.bin .mul (.tmp 52) (.tmp 54), (some 55), none⟩, 16769024⟩,
  ⟨⟨.build [(.float .f64 0), (.float .f64 0)] [(0, 1, (.tmp 43)), (1, 1, (.tmp 55))], (some 56), none⟩, 33554430⟩,
  ⟨⟨.buildSlice 89 2 [(.float .f64 0), (.float .f64 0)] 1 [(0, (.tmp 56))], (some 57), none⟩, 67108862⟩,
  ⟨⟨.append 89 16 2 [(.float .f64 0), (.float .f64 0)] (.tmp 31) (.tmp 57), (some 58), none⟩, 134217727⟩,
  ⟨⟨.move (.tmp 58), (some 7), none⟩, 268435455⟩]
def o21_13 : List AOper := [⟨.move (.tmp 8), (some 29), none⟩,
  ⟨.bin .add (.tmp 29) (.const (.int .i64 1)), (some 30), none⟩,
  ⟨.move (.tmp 30), (some 8), none⟩]
def b21_10 : ACode := (.seq (.seq (.ops o21_11) (.cond (.tmp 28) .skip (.exit 2))) (.seq (.block 3 (.draw d21_12)) (.ops o21_13)))
def o21_14 : List AOper := [⟨.move (.tmp 5), (some 59), none⟩,
  ⟨.move (.tmp 7), (some 60), none⟩,
  ⟨.buildSlice 87 1 [(.slice none 0 0)] 1 [(0, (.tmp 60))], (some 61), none⟩,
  ⟨.append 87 24 1 [(.slice none 0 0)] (.tmp 59) (.tmp 61), (some 62), none⟩,
  ⟨.move (.tmp 62), (some 5), none⟩]
def o21_15 : List AOper := [⟨.move (.tmp 6), (some 19), none⟩,
  ⟨.bin .add (.tmp 19) (.const (.int .i64 1)), (some 20), none⟩,
  ⟨.move (.tmp 20), (some 6), none⟩]
def b21_6 : ACode := (.seq (.seq (.ops o21_7) (.cond (.tmp 18) .skip (.exit 0))) (.seq (.block 1 (.seq (.ops o21_8) (.seq (.seq (.ops o21_9) (.block 2 (.loop b21_10))) (.ops o21_14)))) (.ops o21_15)))
def o21_16 : List AOper := [⟨.move (.tmp 5), (some 63), none⟩,
  ⟨.move (.tmp 63), (some 2), none⟩,
  ⟨.move (.const (.int .i64 0)), (some 3), none⟩]
def ir21 : AFn := ⟨64, [.tmp 2, .tmp 3], (.seq (.ops o21_0) (.seq (.ops o21_1) (.seq (.seq (.ops o21_2) (.cond (.tmp 12) (.seq (.ops o21_3) .ret) .skip)) (.seq (.ops o21_4) (.seq (.seq (.ops o21_5) (.block 0 (.loop b21_6))) (.seq (.ops o21_16) .ret))))))⟩
theorem ir21_eq : fnsOf Try.prog 21 = some ir21 := by kernel_rfl

/-! F22 lookout/lookoutref27.Write -/
def o22_0 : List AOper := [⟨.box 42 (.tmp 0), (some 1), none⟩,
  ⟨.move (.const (.slice none 0 0)), (some 2), none⟩,
  ⟨.move (.const (.int .i64 0)), (some 3), none⟩]
def o22_1 : List AOper := [⟨.load (some 4) (.tmp 1), (some 10), none⟩,
  ⟨.call (.func 38) [(.tmp 10)], (some 11), none⟩,
  ⟨.move (.tmp 11), (some 4), none⟩]
def o22_2 : List AOper := [⟨.move (.tmp 4), (some 12), none⟩,
  ⟨.bin .neq (.tmp 12) (.const (.int .i64 0)), (some 13), none⟩]
def o22_3 : List AOper := [⟨.move (.tmp 4), (some 14), none⟩,
  ⟨.move (.const (.slice none 0 0)), (some 2), none⟩,
  ⟨.move (.tmp 14), (some 3), none⟩]
def o22_4 : List AOper := [⟨.load (some 4) (.tmp 1), (some 16), none⟩,
  ⟨.call (.func 39) [(.tmp 16)], (some 17), none⟩,
  ⟨.move (.tmp 17), (some 15), none⟩,
  ⟨.extract (.tmp 15) 0, (some 18), none⟩,
  ⟨.extract (.tmp 15) 1, (some 19), none⟩,
  ⟨.move (.tmp 18), (some 5), none⟩,
  ⟨.move (.tmp 19), (some 6), none⟩]
def o22_5 : List AOper := [⟨.buildSlice 5 1 [(.int .u8 0)] 3 [(0, (.const (.int .u8 76))), (1, (.const (.int .u8 75))), (2, (.const (.int .u8 49)))], (some 20), none⟩,
  ⟨.move (.tmp 20), (some 7), none⟩]
def o22_6 : List AOper := [⟨.move (.tmp 7), (some 21), none⟩,
  ⟨.fieldAddr 2 (.tmp 1), (some 22), none⟩,
  ⟨.load none (.tmp 22), (some 23), none⟩,
  ⟨.bu .len [(.tmp 23)], (some 24), none⟩,
  ⟨.bin .mul (.const (.int .i64 4)) (.tmp 24), (some 25), none⟩,
  ⟨.move (.tmp 5), (some 26), none⟩,
  ⟨.bin .mul (.tmp 25) (.tmp 26), (some 27), none⟩,
  ⟨.bin .add (.const (.int .i64 20)) (.tmp 27), (some 28), none⟩,
  ⟨.conv (.toInt .u64) (.tmp 28), (some 29), none⟩,
  ⟨.call (.func 40) [(.tmp 21), (.tmp 29), (.const (.int .i64 4))], (some 30), none⟩,
  ⟨.move (.tmp 30), (some 7), none⟩]
def o22_7 : List AOper := [⟨.move (.tmp 7), (some 31), none⟩,
  ⟨.fieldAddr 0 (.tmp 1), (some 32), none⟩,
  ⟨.load none (.tmp 32), (some 33), none⟩,
  ⟨.ext 0 36 [(.tmp 33)], (some 34), none⟩,
  ⟨.call (.func 40) [(.tmp 31), (.tmp 34), (.const (.int .i64 8))], (some 35), none⟩,
  ⟨.move (.tmp 35), (some 7), none⟩]
def o22_8 : List AOper := [⟨.move (.tmp 7), (some 36), none⟩,
  ⟨.fieldAddr 1 (.tmp 1), (some 37), none⟩,
  ⟨.load none (.tmp 37), (some 38), none⟩,
  ⟨.ext 0 36 [(.tmp 38)], (some 39), none⟩,
  ⟨.call (.func 40) [(.tmp 36), (.tmp 39), (.const (.int .i64 8))], (some 40), none⟩,
  ⟨.move (.tmp 40), (some 7), none⟩]
def o22_9 : List AOper := [⟨.move (.tmp 7), (some 41), none⟩,
  ⟨.fieldAddr 2 (.tmp 1), (some 42), none⟩,
  ⟨.load none (.tmp 42), (some 43), none⟩,
  ⟨.bu .len [(.tmp 43)], (some 44), none⟩,
  ⟨.conv (.toInt .u64) (.tmp 44), (some 45), none⟩,
  ⟨.call (.func 40) [(.tmp 41), (.tmp 45), (.const (.int .i64 2))], (some 46), none⟩,
  ⟨.move (.tmp 46), (some 7), none⟩]
def o22_10 : List AOper := [⟨.move (.tmp 7), (some 47), none⟩,
  ⟨.move (.tmp 5), (some 48), none⟩,
  ⟨.conv (.toInt .u64) (.tmp 48), (some 49), none⟩,
  ⟨.call (.func 40) [(.tmp 47), (.tmp 49), (.const (.int .i64 2))], (some 50), none⟩,
  ⟨.move (.tmp 50), (some 7), none⟩]
def o22_11 : List AOper := [⟨.move (.const (.int .i64 0)), (some 8), none⟩]
def o22_13 : List AOper := [⟨.move (.tmp 8), (some 51), none⟩,
  ⟨.fieldAddr 2 (.tmp 1), (some 52), none⟩,
  ⟨.load none (.tmp 52), (some 53), none⟩,
  ⟨.bu .len [(.tmp 53)], (some 54), none⟩,
  ⟨.bin .lss (.tmp 51) (.tmp 54), (some 55), none⟩]
def o22_14 : List AOper := [⟨.move (.const (.int .i64 0)), (some 9), none⟩]
def o22_16 : List AOper := [⟨.move (.tmp 9), (some 58), none⟩,
  ⟨.move (.tmp 5), (some 59), none⟩,
  ⟨.bin .lss (.tmp 58) (.tmp 59), (some 60), none⟩]
def o22_17 : List AOper := [⟨.move (.tmp 7), (some 63), none⟩,
  ⟨.fieldAddr 2 (.tmp 1), (some 64), none⟩,
  ⟨.load none (.tmp 64), (some 65), none⟩,
  ⟨.move (.tmp 8), (some 66), none⟩,
  ⟨.addrSl 1 (.tmp 65) (.tmp 66), (some 67), none⟩,
  ⟨.load none (.tmp 67), (some 68), none⟩,
  ⟨.move (.tmp 9), (some 69), none⟩,
  ⟨.addrSl 1 (.tmp 68) (.tmp 69), (some 70), none⟩,
  ⟨.load none (.tmp 70), (some 71), none⟩,
  ⟨.conv (.toInt .u16) (.tmp 71), (some 72), none⟩,
  ⟨.conv (.toInt .u64) (.tmp 72), (some 73), none⟩,
  ⟨.call (.func 40) [(.tmp 63), (.tmp 73), (.const (.int .i64 2))], (some 74), none⟩,
  ⟨.move (.tmp 74), (some 7), none⟩]
def o22_18 : List AOper := [⟨.move (.tmp 7), (some 75), none⟩,
  ⟨.fieldAddr 3 (.tmp 1), (some 76), none⟩,
  ⟨.load none (.tmp 76), (some 77), none⟩,
  ⟨.move (.tmp 8), (some 78), none⟩,
  ⟨.addrSl 1 (.tmp 77) (.tmp 78), (some 79), none⟩,
  ⟨.load none (.tmp 79), (some 80), none⟩,
  ⟨.move (.tmp 9), (some 81), none⟩,
  ⟨.addrSl 1 (.tmp 80) (.tmp 81), (some 82), none⟩,
  ⟨.load none (.tmp 82), (some 83), none⟩,
  ⟨.conv (.toInt .u16) (.tmp 83), (some 84), none⟩,
  ⟨.conv (.toInt .u64) (.tmp 84), (some 85), none⟩,
  ⟨.call (.func 40) [(.tmp 75), (.tmp 85), (.const (.int .i64 2))], (some 86), none⟩,
  ⟨.move (.tmp 86), (some 7), none⟩]
def o22_19 : List AOper := [⟨.move (.tmp 9), (some 61), none⟩,
  ⟨.bin .add (.tmp 61) (.const (.int .i64 1)), (some 62), none⟩,
  ⟨.move (.tmp 62), (some 9), none⟩]
def b22_15 : ACode := (.seq (.seq (.ops o22_16) (.cond (.tmp 60) .skip (.exit 2))) (.seq (.block 3 (.seq (.ops o22_17) (.ops o22_18))) (.ops o22_19)))
def o22_20 : List AOper := [⟨.move (.tmp 8), (some 56), none⟩,
  ⟨.bin .add (.tmp 56) (.const (.int .i64 1)), (some 57), none⟩,
  ⟨.move (.tmp 57), (some 8), none⟩]
def b22_12 : ACode := (.seq (.seq (.ops o22_13) (.cond (.tmp 55) .skip (.exit 0))) (.seq (.block 1 (.seq (.ops o22_14) (.block 2 (.loop b22_15)))) (.ops o22_20)))
def o22_21 : List AOper := [⟨.move (.tmp 7), (some 87), none⟩,
  ⟨.move (.tmp 7), (some 88), none⟩,
  ⟨.call (.func 31) [(.tmp 88)], (some 89), none⟩,
  ⟨.conv (.toInt .u64) (.tmp 89), (some 90), none⟩,
  ⟨.call (.func 40) [(.tmp 87), (.tmp 90), (.const (.int .i64 4))], (some 91), none⟩,
  ⟨.move (.tmp 91), (some 2), none⟩,
  ⟨.move (.const (.int .i64 0)), (some 3), none⟩]
def ir22 : AFn := ⟨92, [.tmp 2, .tmp 3], (.seq (.ops o22_0) (.seq (.ops o22_1) (.seq (.seq (.ops o22_2) (.cond (.tmp 13) (.seq (.ops o22_3) .ret) .skip)) (.seq (.ops o22_4) (.seq (.ops o22_5) (.seq (.ops o22_6) (.seq (.ops o22_7) (.seq (.ops o22_8) (.seq (.ops o22_9) (.seq (.ops o22_10) (.seq (.seq (.ops o22_11) (.block 0 (.loop b22_12))) (.seq (.ops o22_21) .ret))))))))))))⟩
theorem ir22_eq : fnsOf Try.prog 22 = some ir22 := by kernel_rfl

/-! F23 lookout/lookoutref01.SameTable -/
def o23_0 : List AOper := [⟨.move (.const (.bool false)), (some 4), none⟩]
def o23_1 : List AOper := [⟨.move (.tmp 0), (some 7), none⟩,
  ⟨.bu .len [(.tmp 7)], (some 8), none⟩,
  ⟨.move (.tmp 1), (some 9), none⟩,
  ⟨.bu .len [(.tmp 9)], (some 10), none⟩,
  ⟨.bin .neq (.tmp 8) (.tmp 10), (some 11), none⟩]
def o23_2 : List AOper := [⟨.move (.const (.bool false)), (some 4), none⟩]
def o23_3 : List AOper := [⟨.move (.const (.int .i64 0)), (some 5), none⟩]
def o23_5 : List AOper := [⟨.move (.tmp 5), (some 12), none⟩,
  ⟨.move (.tmp 0), (some 13), none⟩,
  ⟨.bu .len [(.tmp 13)], (some 14), none⟩,
  ⟨.bin .lss (.tmp 12) (.tmp 14), (some 15), none⟩]
def d23_6 : List DOper := [⟨⟨.move (.tmp 0), (some 18), none⟩, 0⟩,
  ⟨⟨.move (.tmp 5), (some 19), none⟩, 0⟩,
  ⟨⟨.addrSl 1 (.tmp 18) (.tmp 19), (some 20), none⟩, 3⟩,
  ⟨⟨.load none (.tmp 20), (some 21), none⟩, 7⟩,
  ⟨⟨.move (.tmp 1), (some 22), none⟩, 0⟩,
  ⟨⟨.move (.tmp 5), (some 23), none⟩, 0⟩,
  ⟨⟨.addrSl 1 (.tmp 22) (.tmp 23), (some 24), none⟩, 48⟩,
  ⟨⟨.load none (.tmp 24), (some 25), none⟩, 112⟩,
  ⟨⟨.call (.func 41) [(.tmp 21), (.tmp 25)], (some 26), none⟩, 255⟩,
  ⟨⟨.move (.tmp 26), (some 6), none⟩, 511⟩]
def o23_7 : List AOper := [⟨.move (.tmp 6), (some 27), none⟩,
  ⟨.un .not (.tmp 27), (some 28), none⟩]
def o23_8 : List AOper := [⟨.move (.const (.bool false)), (some 4), none⟩]
def o23_9 : List AOper := [⟨.move (.tmp 5), (some 16), none⟩,
  ⟨.bin .add (.tmp 16) (.const (.int .i64 1)), (some 17), none⟩,
  ⟨.move (.tmp 17), (some 5), none⟩]
def b23_4 : ACode := (.seq (.seq (.ops o23_5) (.cond (.tmp 15) .skip (.exit 0))) (.seq (.block 1 (.seq (.draw d23_6) (.seq (.ops o23_7) (.cond (.tmp 28) (.seq (.ops o23_8) .ret) .skip)))) (.ops o23_9)))
def o23_10 : List AOper := [⟨.move (.const (.bool true)), (some 4), none⟩]
def ir23 : AFn := ⟨29, [.tmp 4], (.seq (.ops o23_0) (.seq (.seq (.ops o23_1) (.cond (.tmp 11) (.seq (.ops o23_2) .ret) .skip)) (.seq (.seq (.ops o23_3) (.block 0 (.loop b23_4))) (.seq (.ops o23_10) .ret))))⟩
theorem ir23_eq : fnsOf Try.prog 23 = some ir23 := by kernel_rfl

/-! F24 lookout/lookoutlaw01.OfTable -/
def o24_0 : List AOper := [⟨.move (.const (.slice none 0 0)), (some 2), none⟩]
def o24_1 : List AOper := [⟨.move (.const (.slice none 0 0)), (some 3), none⟩]
def o24_2 : List AOper := [⟨.move (.const (.int .i64 0)), (some 4), none⟩]
def o24_4 : List AOper := [⟨.move (.tmp 4), (some 6), none⟩,
  ⟨.move (.tmp 0), (some 7), none⟩,
  ⟨.bu .len [(.tmp 7)], (some 8), none⟩,
  ⟨.bin .lss (.tmp 6) (.tmp 8), (some 9), none⟩]
def o24_5 : List AOper := [⟨.move (.tmp 0), (some 12), none⟩,
  ⟨.move (.tmp 4), (some 13), none⟩,
  ⟨.addrSl 1 (.tmp 12) (.tmp 13), (some 14), none⟩,
  ⟨.load none (.tmp 14), (some 15), none⟩,
  ⟨.call (.func 42) [(.tmp 15)], (some 16), none⟩,
  ⟨.move (.tmp 16), (some 5), none⟩]
def o24_6 : List AOper := [⟨.move (.tmp 3), (some 17), none⟩,
  ⟨.move (.tmp 5), (some 18), none⟩,
  ⟨.buildSlice 87 1 [(.slice none 0 0)] 1 [(0, (.tmp 18))], (some 19), none⟩,
  ⟨.append 87 24 1 [(.slice none 0 0)] (.tmp 17) (.tmp 19), (some 20), none⟩,
  ⟨.move (.tmp 20), (some 3), none⟩]
def o24_7 : List AOper := [⟨.move (.tmp 4), (some 10), none⟩,
  ⟨.bin .add (.tmp 10) (.const (.int .i64 1)), (some 11), none⟩,
  ⟨.move (.tmp 11), (some 4), none⟩]
def b24_3 : ACode := (.seq (.seq (.ops o24_4) (.cond (.tmp 9) .skip (.exit 0))) (.seq (.block 1 (.seq (.ops o24_5) (.ops o24_6))) (.ops o24_7)))
def o24_8 : List AOper := [⟨.move (.tmp 3), (some 21), none⟩,
  ⟨.move (.tmp 21), (some 2), none⟩]
def ir24 : AFn := ⟨22, [.tmp 2], (.seq (.ops o24_0) (.seq (.ops o24_1) (.seq (.seq (.ops o24_2) (.block 0 (.loop b24_3))) (.seq (.ops o24_8) .ret))))⟩
theorem ir24_eq : fnsOf Try.prog 24 = some ir24 := by kernel_rfl

/-! F25 lookout/lookoutref27.Same -/
def o25_0 : List AOper := [⟨.box 42 (.tmp 0), (some 2), none⟩,
  ⟨.box 42 (.tmp 1), (some 3), none⟩,
  ⟨.move (.const (.bool false)), (some 4), none⟩]
def o25_1 : List AOper := [⟨.fieldAddr 0 (.tmp 2), (some 6), none⟩,
  ⟨.load none (.tmp 6), (some 7), none⟩,
  ⟨.fieldAddr 0 (.tmp 3), (some 8), none⟩,
  ⟨.load none (.tmp 8), (some 9), none⟩,
  ⟨.call (.func 43) [(.tmp 7), (.tmp 9)], (some 10), none⟩,
  ⟨.move (.tmp 10), (some 11), none⟩,
  ⟨.fieldAddr 1 (.tmp 2), (some 12), (some (11, true))⟩,
  ⟨.load none (.tmp 12), (some 13), (some (11, true))⟩,
  ⟨.fieldAddr 1 (.tmp 3), (some 14), (some (11, true))⟩,
  ⟨.load none (.tmp 14), (some 15), (some (11, true))⟩,
  ⟨.call (.func 43) [(.tmp 13), (.tmp 15)], (some 16), (some (11, true))⟩,
  ⟨.pick (.tmp 11) (.tmp 16) (.const (.bool false)), (some 17), none⟩,
  ⟨.move (.tmp 17), (some 5), none⟩]
def o25_2 : List AOper := [⟨.move (.tmp 5), (some 18), none⟩,
  ⟨.move (.tmp 18), (some 19), none⟩,
  ⟨.fieldAddr 2 (.tmp 2), (some 20), (some (19, true))⟩,
  ⟨.load none (.tmp 20), (some 21), (some (19, true))⟩,
  ⟨.fieldAddr 2 (.tmp 3), (some 22), (some (19, true))⟩,
  ⟨.load none (.tmp 22), (some 23), (some (19, true))⟩,
  ⟨.call (.func 44) [(.tmp 21), (.tmp 23)], (some 24), (some (19, true))⟩,
  ⟨.pick (.tmp 19) (.tmp 24) (.const (.bool false)), (some 25), none⟩,
  ⟨.move (.tmp 25), (some 26), none⟩,
  ⟨.fieldAddr 3 (.tmp 2), (some 27), (some (26, true))⟩,
  ⟨.load none (.tmp 27), (some 28), (some (26, true))⟩,
  ⟨.fieldAddr 3 (.tmp 3), (some 29), (some (26, true))⟩,
  ⟨.load none (.tmp 29), (some 30), (some (26, true))⟩,
  ⟨.call (.func 44) [(.tmp 28), (.tmp 30)], (some 31), (some (26, true))⟩,
  ⟨.pick (.tmp 26) (.tmp 31) (.const (.bool false)), (some 32), none⟩,
  ⟨.move (.tmp 32), (some 4), none⟩]
def ir25 : AFn := ⟨33, [.tmp 4], (.seq (.ops o25_0) (.seq (.ops o25_1) (.seq (.ops o25_2) .ret)))⟩
theorem ir25_eq : fnsOf Try.prog 25 = some ir25 := by kernel_rfl

/-! F26 lookout/lookoutlaw27.within -/
def o26_0 : List AOper := [⟨.move (.const (.bool false)), (some 2), none⟩]
def o26_1 : List AOper := [⟨.move (.tmp 0), (some 3), none⟩,
  ⟨.bin .geq (.tmp 3) (.const (.float .f64 2355382605114769408)), (some 4), none⟩,
  ⟨.move (.tmp 4), (some 5), none⟩,
  ⟨.move (.tmp 0), (some 6), (some (5, true))⟩,
  ⟨.bin .leq (.tmp 6) (.const (.float .f64 6858982232485265408)), (some 7), (some (5, true))⟩,
  ⟨.pick (.tmp 5) (.tmp 7) (.const (.bool false)), (some 8), none⟩,
  ⟨.move (.tmp 8), (some 2), none⟩]
def ir26 : AFn := ⟨9, [.tmp 2], (.seq (.ops o26_0) (.seq (.ops o26_1) .ret))⟩
theorem ir26_eq : fnsOf Try.prog 26 = some ir26 := by kernel_rfl

/-! F27 lookout/tape.Frame -/
def o27_0 : List AOper := [⟨.alloc 42 [(.float .f64 0), (.float .f64 0), (.slice none 0 0), (.slice none 0 0)], (some 6), none⟩,
  ⟨.move (.const (.int .i64 0)), (some 7), none⟩]
def o27_1 : List AOper := [⟨.move (.tmp 1), (some 16), none⟩,
  ⟨.call (.func 45) [(.tmp 16)], (some 17), none⟩,
  ⟨.un .not (.tmp 17), (some 18), none⟩,
  ⟨.move (.tmp 18), (some 19), none⟩,
  ⟨.move (.tmp 2), (some 20), (some (19, false))⟩,
  ⟨.call (.func 45) [(.tmp 20)], (some 21), (some (19, false))⟩,
  ⟨.un .not (.tmp 21), (some 22), (some (19, false))⟩,
  ⟨.pick (.tmp 19) (.const (.bool true)) (.tmp 22), (some 23), none⟩,
  ⟨.move (.tmp 23), (some 24), none⟩,
  ⟨.move (.tmp 2), (some 25), (some (24, false))⟩,
  ⟨.bin .gtr (.tmp 25) (.const (.float .f64 0)), (some 26), (some (24, false))⟩,
  ⟨.un .not (.tmp 26), (some 27), (some (24, false))⟩,
  ⟨.pick (.tmp 24) (.const (.bool true)) (.tmp 27), (some 28), none⟩]
def o27_2 : List AOper := [⟨.build [(.float .f64 0), (.float .f64 0), (.slice none 0 0), (.slice none 0 0)] [], (some 29), none⟩,
  ⟨.store 4 (.tmp 6) (.tmp 29), none, none⟩,
  ⟨.move (.const (.int .i64 6)), (some 7), none⟩]
def o27_3 : List AOper := [⟨.move (.const (.int .i64 0)), (some 8), none⟩]
def o27_4 : List AOper := [⟨.move (.tmp 0), (some 30), none⟩,
  ⟨.bu .len [(.tmp 30)], (some 31), none⟩,
  ⟨.move (.const (.int .i64 0)), (some 32), none⟩]
def o27_6 : List AOper := [⟨.bin .lss (.tmp 32) (.tmp 31), (some 33), none⟩]
def o27_7 : List AOper := [⟨.move (.tmp 32), (some 34), none⟩,
  ⟨.addrSl 1 (.tmp 30) (.tmp 32), (some 35), none⟩,
  ⟨.load none (.tmp 35), (some 36), none⟩,
  ⟨.move (.tmp 34), (some 9), none⟩,
  ⟨.move (.tmp 36), (some 10), none⟩]
def o27_8 : List AOper := [⟨.move (.tmp 9), (some 37), none⟩,
  ⟨.bin .eql (.tmp 37) (.const (.int .i64 0)), (some 38), none⟩]
def o27_9 : List AOper := [⟨.move (.tmp 10), (some 39), none⟩,
  ⟨.bu .len [(.tmp 39)], (some 40), none⟩,
  ⟨.move (.tmp 40), (some 8), none⟩]
def o27_10 : List AOper := [⟨.move (.tmp 10), (some 41), none⟩,
  ⟨.bu .len [(.tmp 41)], (some 42), none⟩,
  ⟨.move (.tmp 8), (some 43), none⟩,
  ⟨.bin .neq (.tmp 42) (.tmp 43), (some 44), none⟩]
def o27_11 : List AOper := [⟨.build [(.float .f64 0), (.float .f64 0), (.slice none 0 0), (.slice none 0 0)] [], (some 45), none⟩,
  ⟨.store 4 (.tmp 6) (.tmp 45), none, none⟩,
  ⟨.move (.const (.int .i64 5)), (some 7), none⟩]
def o27_12 : List AOper := [⟨.bin .add (.tmp 32) (.const (.int .i64 1)), (some 46), none⟩,
  ⟨.move (.tmp 46), (some 32), none⟩]
def b27_5 : ACode := (.seq (.ops o27_6) (.seq (.cond (.tmp 33) .skip (.exit 0)) (.seq (.block 1 (.seq (.ops o27_7) (.seq (.ops o27_8) (.cond (.tmp 38) (.ops o27_9) (.seq (.ops o27_10) (.cond (.tmp 44) (.seq (.ops o27_11) .ret) .skip)))))) (.ops o27_12))))
def o27_13 : List AOper := [⟨.move (.tmp 0), (some 47), none⟩,
  ⟨.bu .len [(.tmp 47)], (some 48), none⟩,
  ⟨.move (.tmp 8), (some 49), none⟩,
  ⟨.call (.func 46) [(.tmp 48), (.tmp 49)], (some 50), none⟩]
def o27_14 : List AOper := [⟨.build [(.float .f64 0), (.float .f64 0), (.slice none 0 0), (.slice none 0 0)] [], (some 51), none⟩,
  ⟨.store 4 (.tmp 6) (.tmp 51), none, none⟩,
  ⟨.move (.const (.int .i64 3)), (some 7), none⟩]
def o27_15 : List AOper := [⟨.move (.tmp 1), (some 52), none⟩,
  ⟨.move (.tmp 2), (some 53), none⟩,
  ⟨.move (.tmp 0), (some 54), none⟩,
  ⟨.bu .len [(.tmp 54)], (some 55), none⟩,
  ⟨.move (.tmp 8), (some 56), none⟩,
  ⟨.call (.func 47) [(.tmp 55), (.tmp 56)], (some 57), none⟩,
  ⟨.move (.tmp 0), (some 58), none⟩,
  ⟨.bu .len [(.tmp 58)], (some 59), none⟩,
  ⟨.move (.tmp 8), (some 60), none⟩,
  ⟨.call (.func 47) [(.tmp 59), (.tmp 60)], (some 61), none⟩,
  ⟨.build [(.float .f64 0), (.float .f64 0), (.slice none 0 0), (.slice none 0 0)] [(0, 1, (.tmp 52)), (1, 1, (.tmp 53)), (2, 1, (.tmp 57)), (3, 1, (.tmp 61))], (some 62), none⟩,
  ⟨.alloc 42 [(.float .f64 0), (.float .f64 0), (.slice none 0 0), (.slice none 0 0)], (some 11), none⟩,
  ⟨.store 4 (.tmp 11) (.tmp 62), none, none⟩]
def o27_16 : List AOper := [⟨.move (.tmp 0), (some 63), none⟩,
  ⟨.bu .len [(.tmp 63)], (some 64), none⟩,
  ⟨.move (.const (.int .i64 0)), (some 65), none⟩]
def o27_18 : List AOper := [⟨.bin .lss (.tmp 65) (.tmp 64), (some 66), none⟩]
def o27_19 : List AOper := [⟨.move (.tmp 65), (some 67), none⟩,
  ⟨.addrSl 1 (.tmp 63) (.tmp 65), (some 68), none⟩,
  ⟨.load none (.tmp 68), (some 69), none⟩,
  ⟨.move (.tmp 67), (some 12), none⟩,
  ⟨.move (.tmp 69), (some 13), none⟩]
def o27_20 : List AOper := [⟨.move (.tmp 13), (some 70), none⟩,
  ⟨.bu .len [(.tmp 70)], (some 71), none⟩,
  ⟨.move (.const (.int .i64 0)), (some 72), none⟩]
def o27_22 : List AOper := [⟨.bin .lss (.tmp 72) (.tmp 71), (some 73), none⟩]
def o27_23 : List AOper := [⟨.move (.tmp 72), (some 74), none⟩,
  ⟨.addrSl 1 (.tmp 70) (.tmp 72), (some 75), none⟩,
  ⟨.load none (.tmp 75), (some 76), none⟩,
  ⟨.move (.tmp 74), (some 14), none⟩,
  ⟨.move (.tmp 76), (some 15), none⟩]
def d27_24 : List DOper := [⟨⟨.fieldAddr 2 (.tmp 11), (some 77), none⟩, 0⟩,
  ⟨⟨.load none (.tmp 77), (some 78), none⟩, 1⟩,
  ⟨⟨.move (.tmp 12), (some 79), none⟩, 0⟩,
  ⟨⟨.addrSl 1 (.tmp 78) (.tmp 79), (some 80), none⟩, 7⟩,
  ⟨⟨.load none (.tmp 80), (some 81), none⟩, 15⟩,
  ⟨⟨.move (.tmp 14), (some 82), none⟩, 0⟩,
  ⟨⟨.fieldAddr 3 (.tmp 11), (some 83), none⟩, 0⟩,
  ⟨⟨.load none (.tmp 83), (some 84), none⟩, 64⟩,
  ⟨⟨.move (.tmp 12), (some 85), none⟩, 0⟩,
  ⟨⟨.addrSl 1 (.tmp 84) (.tmp 85), (some 86), none⟩, 448⟩,
  ⟨⟨.load none (.tmp 86), (some 87), none⟩, 960⟩,
  ⟨⟨.move (.tmp 14), (some 88), none⟩, 0⟩,
  ⟨⟨.move (.tmp 15), (some 89), none⟩, 0⟩,
  ⟨⟨.bu .real [(.tmp 89)], (some 90), none⟩, 4096⟩,
  ⟨⟨.move (.tmp 2), (some 91), none⟩, 0⟩,
  ⟨⟨.bin .quo (.tmp 90) (.tmp 91), (some 92), none⟩, 28672⟩,
  ⟨⟨.call (.func 48) [(.tmp 92)], (some 93), none⟩, 61440⟩,
  ⟨⟨.move (.tmp 15), (some 94), none⟩, 0⟩,
  ⟨⟨.bu .imag [(.tmp 94)], (some 95), none⟩, 131072⟩,
  ⟨⟨.move (.tmp 2), (some 96), none⟩, 0⟩,
  ⟨⟨.bin .quo (.tmp 95) (.tmp 96), (some 97), none⟩, 917504⟩,
  ⟨⟨.call (.func 48) [(.tmp 97)], (some 98), none⟩, 2093056⟩,
  ⟨⟨.addrSl 1 (.tmp 81) (.tmp 82), (some 99), none⟩, 4192255⟩,
  ⟨⟨.store 1 (.tmp 99) (.tmp 93), none, none⟩, 8386559⟩,
  ⟨⟨.addrSl 1 (.tmp 87) (.tmp 88), (some 100), none⟩, 16777215⟩,
  ⟨⟨.store 1 (.tmp 100) (.tmp 98), none, none⟩, 33554431⟩]
def o27_25 : List AOper := [⟨.bin .add (.tmp 72) (.const (.int .i64 1)), (some 101), none⟩,
  ⟨.move (.tmp 101), (some 72), none⟩]
def b27_21 : ACode := (.seq (.ops o27_22) (.seq (.cond (.tmp 73) .skip (.exit 4)) (.seq (.block 5 (.seq (.ops o27_23) (.draw d27_24))) (.ops o27_25))))
def o27_26 : List AOper := [⟨.bin .add (.tmp 65) (.const (.int .i64 1)), (some 102), none⟩,
  ⟨.move (.tmp 102), (some 65), none⟩]
def b27_17 : ACode := (.seq (.ops o27_18) (.seq (.cond (.tmp 66) .skip (.exit 2)) (.seq (.block 3 (.seq (.ops o27_19) (.seq (.ops o27_20) (.block 4 (.loop b27_21))))) (.ops o27_26))))
def o27_27 : List AOper := [⟨.load (some 4) (.tmp 11), (some 103), none⟩,
  ⟨.store 4 (.tmp 6) (.tmp 103), none, none⟩,
  ⟨.move (.const (.int .i64 0)), (some 7), none⟩]
def ir27 : AFn := ⟨104, [.cell 6 (some 4), .tmp 7], (.seq (.ops o27_0) (.seq (.seq (.ops o27_1) (.cond (.tmp 28) (.seq (.ops o27_2) .ret) .skip)) (.seq (.ops o27_3) (.seq (.seq (.ops o27_4) (.block 0 (.loop b27_5))) (.seq (.seq (.ops o27_13) (.cond (.tmp 50) (.seq (.ops o27_14) .ret) .skip)) (.seq (.ops o27_15) (.seq (.seq (.ops o27_16) (.block 2 (.loop b27_17))) (.seq (.ops o27_27) .ret))))))))⟩
theorem ir27_eq : fnsOf Try.prog 27 = some ir27 := by kernel_rfl

/-! F28 lookout/tape.first -/
def o28_0 : List AOper := [⟨.alloc 42 [(.float .f64 0), (.float .f64 0), (.slice none 0 0), (.slice none 0 0)], (some 2), none⟩,
  ⟨.move (.const (.int .i64 0)), (some 3), none⟩,
  ⟨.move (.const (.bool false)), (some 4), none⟩]
def o28_1 : List AOper := [⟨.move (.tmp 0), (some 12), none⟩,
  ⟨.bu .len [(.tmp 12)], (some 13), none⟩,
  ⟨.bu .min [(.tmp 13), (.const (.int .i64 3))], (some 14), none⟩,
  ⟨.move (.tmp 14), (some 5), none⟩]
def d28_2 : List DOper := [⟨⟨.move (.tmp 0), (some 15), none⟩, 0⟩,
  ⟨⟨.move (.tmp 5), (some 16), none⟩, 0⟩,
  ⟨⟨.slSl 1 (.tmp 15) none (some (.tmp 16)) none, (some 17), none⟩, 3⟩,
  ⟨⟨.text (.tmp 17), (some 18), none⟩, 7⟩,
  ⟨⟨.move (.tmp 5), (some 19), none⟩, 0⟩,
  ⟨⟨.slStr (.const (.string ⟨#[76, 75, 49]⟩)) none (some (.tmp 19)), (some 20), none⟩, 16⟩,
  ⟨⟨.bin .neq (.tmp 18) (.tmp 20), (some 21), none⟩, 63⟩]
def o28_3 : List AOper := [⟨.load (some 4) (.tmp 2), (some 22), none⟩,
  ⟨.store 4 (.tmp 2) (.tmp 22), none, none⟩,
  ⟨.move (.const (.int .i64 0)), (some 3), none⟩,
  ⟨.move (.const (.bool true)), (some 4), none⟩]
def o28_4 : List AOper := [⟨.move (.tmp 0), (some 23), none⟩,
  ⟨.bu .len [(.tmp 23)], (some 24), none⟩,
  ⟨.bin .lss (.tmp 24) (.const (.int .i64 7)), (some 25), none⟩]
def o28_5 : List AOper := [⟨.load (some 4) (.tmp 2), (some 26), none⟩,
  ⟨.store 4 (.tmp 2) (.tmp 26), none, none⟩,
  ⟨.move (.const (.int .i64 0)), (some 3), none⟩,
  ⟨.move (.const (.bool false)), (some 4), none⟩]
def o28_6 : List AOper := [⟨.move (.tmp 0), (some 27), none⟩,
  ⟨.slSl 1 (.tmp 27) (some (.const (.int .i64 3))) (some (.const (.int .i64 7))) none, (some 28), none⟩,
  ⟨.call (.func 49) [(.tmp 28)], (some 29), none⟩,
  ⟨.conv (.toInt .i64) (.tmp 29), (some 30), none⟩,
  ⟨.move (.tmp 30), (some 6), none⟩]
def o28_7 : List AOper := [⟨.move (.tmp 6), (some 31), none⟩,
  ⟨.bin .sub (.tmp 31) (.const (.int .i64 20)), (some 32), none⟩,
  ⟨.bin .quo (.tmp 32) (.const (.int .i64 4)), (some 33), none⟩,
  ⟨.move (.tmp 33), (some 7), none⟩]
def o28_8 : List AOper := [⟨.move (.tmp 6), (some 34), none⟩,
  ⟨.bin .lss (.tmp 34) (.const (.int .i64 20)), (some 35), none⟩,
  ⟨.move (.tmp 35), (some 36), none⟩,
  ⟨.move (.tmp 6), (some 37), (some (36, false))⟩,
  ⟨.bin .rem (.tmp 37) (.const (.int .i64 4)), (some 38), (some (36, false))⟩,
  ⟨.bin .neq (.tmp 38) (.const (.int .i64 0)), (some 39), (some (36, false))⟩,
  ⟨.pick (.tmp 36) (.const (.bool true)) (.tmp 39), (some 40), none⟩,
  ⟨.move (.tmp 40), (some 41), none⟩,
  ⟨.move (.tmp 7), (some 42), (some (41, false))⟩,
  ⟨.bin .gtr (.tmp 42) (.const (.int .i64 262144)), (some 43), (some (41, false))⟩,
  ⟨.pick (.tmp 41) (.const (.bool true)) (.tmp 43), (some 44), none⟩]
def o28_9 : List AOper := [⟨.load (some 4) (.tmp 2), (some 45), none⟩,
  ⟨.store 4 (.tmp 2) (.tmp 45), none, none⟩,
  ⟨.move (.const (.int .i64 0)), (some 3), none⟩,
  ⟨.move (.const (.bool true)), (some 4), none⟩]
def o28_10 : List AOper := [⟨.move (.tmp 0), (some 46), none⟩,
  ⟨.bu .len [(.tmp 46)], (some 47), none⟩,
  ⟨.bin .lss (.tmp 47) (.const (.int .i64 23)), (some 48), none⟩]
def o28_11 : List AOper := [⟨.load (some 4) (.tmp 2), (some 49), none⟩,
  ⟨.store 4 (.tmp 2) (.tmp 49), none, none⟩,
  ⟨.move (.const (.int .i64 0)), (some 3), none⟩,
  ⟨.move (.const (.bool false)), (some 4), none⟩]
def d28_12 : List DOper := [⟨⟨.move (.tmp 0), (some 50), none⟩, 0⟩,
  ⟨⟨.slSl 1 (.tmp 50) (some (.const (.int .i64 7))) (some (.const (.int .i64 15))) none, (some 51), none⟩, 1⟩,
  ⟨⟨.call (.func 49) [(.tmp 51)], (some 52), none⟩, 3⟩,
  ⟨⟨.ext 1 50 [(.tmp 52)], (some 53), none⟩, 7⟩,
  ⟨⟨.move (.tmp 0), (some 54), none⟩, 0⟩,
  ⟨⟨.slSl 1 (.tmp 54) (some (.const (.int .i64 15))) (some (.const (.int .i64 23))) none, (some 55), none⟩, 16⟩,
  ⟨⟨.call (.func 49) [(.tmp 55)], (some 56), none⟩, 63⟩,
  ⟨⟨.ext 1 50 [(.tmp 56)], (some 57), none⟩, 127⟩,
  ⟨⟨.fieldAddr 0 (.tmp 2), (some 58), none⟩, 15⟩,
  ⟨⟨.store 1 (.tmp 58) (.tmp 53), none, none⟩, 511⟩,
  ⟨⟨.fieldAddr 1 (.tmp 2), (some 59), none⟩, 1023⟩,
  ⟨⟨.store 1 (.tmp 59) (.tmp 57), none, none⟩, 2047⟩]
def o28_13 : List AOper := [⟨.fieldAddr 0 (.tmp 2), (some 60), none⟩,
  ⟨.load none (.tmp 60), (some 61), none⟩,
  ⟨.call (.func 45) [(.tmp 61)], (some 62), none⟩,
  ⟨.un .not (.tmp 62), (some 63), none⟩,
  ⟨.move (.tmp 63), (some 64), none⟩,
  ⟨.fieldAddr 1 (.tmp 2), (some 65), (some (64, false))⟩,
  ⟨.load none (.tmp 65), (some 66), (some (64, false))⟩,
  ⟨.call (.func 45) [(.tmp 66)], (some 67), (some (64, false))⟩,
  ⟨.un .not (.tmp 67), (some 68), (some (64, false))⟩,
  ⟨.pick (.tmp 64) (.const (.bool true)) (.tmp 68), (some 69), none⟩,
  ⟨.move (.tmp 69), (some 70), none⟩,
  ⟨.fieldAddr 1 (.tmp 2), (some 71), (some (70, false))⟩,
  ⟨.load none (.tmp 71), (some 72), (some (70, false))⟩,
  ⟨.bin .gtr (.tmp 72) (.const (.float .f64 0)), (some 73), (some (70, false))⟩,
  ⟨.un .not (.tmp 73), (some 74), (some (70, false))⟩,
  ⟨.pick (.tmp 70) (.const (.bool true)) (.tmp 74), (some 75), none⟩]
def o28_14 : List AOper := [⟨.load (some 4) (.tmp 2), (some 76), none⟩,
  ⟨.store 4 (.tmp 2) (.tmp 76), none, none⟩,
  ⟨.move (.const (.int .i64 0)), (some 3), none⟩,
  ⟨.move (.const (.bool true)), (some 4), none⟩]
def o28_15 : List AOper := [⟨.move (.tmp 0), (some 77), none⟩,
  ⟨.bu .len [(.tmp 77)], (some 78), none⟩,
  ⟨.bin .lss (.tmp 78) (.const (.int .i64 27)), (some 79), none⟩]
def o28_16 : List AOper := [⟨.load (some 4) (.tmp 2), (some 80), none⟩,
  ⟨.store 4 (.tmp 2) (.tmp 80), none, none⟩,
  ⟨.move (.const (.int .i64 0)), (some 3), none⟩,
  ⟨.move (.const (.bool false)), (some 4), none⟩]
def d28_17 : List DOper := [⟨⟨.move (.tmp 0), (some 81), none⟩, 0⟩,
  ⟨⟨.slSl 1 (.tmp 81) (some (.const (.int .i64 23))) (some (.const (.int .i64 25))) none, (some 82), none⟩, 1⟩,
  ⟨⟨.call (.func 49) [(.tmp 82)], (some 83), none⟩, 3⟩,
  ⟨⟨.conv (.toInt .i64) (.tmp 83), (some 84), none⟩, 7⟩,
  ⟨⟨.move (.tmp 0), (some 85), none⟩, 0⟩,
  ⟨⟨.slSl 1 (.tmp 85) (some (.const (.int .i64 25))) (some (.const (.int .i64 27))) none, (some 86), none⟩, 16⟩,
  ⟨⟨.call (.func 49) [(.tmp 86)], (some 87), none⟩, 55⟩,
  ⟨⟨.conv (.toInt .i64) (.tmp 87), (some 88), none⟩, 119⟩,
  ⟨⟨.move (.tmp 84), (some 8), none⟩, 127⟩,
  ⟨⟨.move (.tmp 88), (some 9), none⟩, 511⟩]
def o28_18 : List AOper := [⟨.move (.tmp 8), (some 89), none⟩,
  ⟨.move (.tmp 9), (some 90), none⟩,
  ⟨.call (.func 46) [(.tmp 89), (.tmp 90)], (some 91), none⟩,
  ⟨.move (.tmp 91), (some 92), none⟩,
  ⟨.move (.tmp 8), (some 93), (some (92, false))⟩,
  ⟨.bin .eql (.tmp 93) (.const (.int .i64 0)), (some 94), (some (92, false))⟩,
  ⟨.move (.tmp 94), (some 95), (some (92, false))⟩,
  ⟨.move (.tmp 9), (some 96), (some (95, true))⟩,
  ⟨.bin .gtr (.tmp 96) (.const (.int .i64 0)), (some 97), (some (95, true))⟩,
  ⟨.pick (.tmp 95) (.tmp 97) (.const (.bool false)), (some 98), (some (92, false))⟩,
  ⟨.pick (.tmp 92) (.const (.bool true)) (.tmp 98), (some 99), none⟩,
  ⟨.move (.tmp 99), (some 100), none⟩,
  ⟨.move (.tmp 8), (some 101), (some (100, false))⟩,
  ⟨.move (.tmp 9), (some 102), (some (100, false))⟩,
  ⟨.bin .mul (.tmp 101) (.tmp 102), (some 103), (some (100, false))⟩,
  ⟨.move (.tmp 7), (some 104), (some (100, false))⟩,
  ⟨.bin .neq (.tmp 103) (.tmp 104), (some 105), (some (100, false))⟩,
  ⟨.pick (.tmp 100) (.const (.bool true)) (.tmp 105), (some 106), none⟩]
def o28_19 : List AOper := [⟨.load (some 4) (.tmp 2), (some 107), none⟩,
  ⟨.store 4 (.tmp 2) (.tmp 107), none, none⟩,
  ⟨.move (.const (.int .i64 0)), (some 3), none⟩,
  ⟨.move (.const (.bool true)), (some 4), none⟩]
def o28_20 : List AOper := [⟨.move (.tmp 0), (some 108), none⟩,
  ⟨.bu .len [(.tmp 108)], (some 109), none⟩,
  ⟨.move (.tmp 6), (some 110), none⟩,
  ⟨.bin .add (.tmp 110) (.const (.int .i64 11)), (some 111), none⟩,
  ⟨.bin .lss (.tmp 109) (.tmp 111), (some 112), none⟩]
def o28_21 : List AOper := [⟨.load (some 4) (.tmp 2), (some 113), none⟩,
  ⟨.store 4 (.tmp 2) (.tmp 113), none, none⟩,
  ⟨.move (.const (.int .i64 0)), (some 3), none⟩,
  ⟨.move (.const (.bool false)), (some 4), none⟩]
def d28_22 : List DOper := [⟨⟨.move (.tmp 0), (some 114), none⟩, 0⟩,
  ⟨⟨.move (.tmp 6), (some 115), none⟩, 0⟩,
  ⟨⟨.bin .add (.tmp 115) (.const (.int .i64 7)), (some 116), none⟩, 2⟩,
  ⟨⟨.slSl 1 (.tmp 114) none (some (.tmp 116)) none, (some 117), none⟩, 7⟩,
  ⟨⟨.call (.func 37) [(.tmp 117)], (some 118), none⟩, 15⟩,
  ⟨⟨.conv (.toInt .u64) (.tmp 118), (some 119), none⟩, 31⟩,
  ⟨⟨.move (.tmp 0), (some 120), none⟩, 0⟩,
  ⟨⟨.move (.tmp 6), (some 121), none⟩, 0⟩,
  ⟨⟨.bin .add (.tmp 121) (.const (.int .i64 7)), (some 122), none⟩, 128⟩,
  ⟨⟨.move (.tmp 6), (some 123), none⟩, 0⟩,
  ⟨⟨.bin .add (.tmp 123) (.const (.int .i64 11)), (some 124), none⟩, 512⟩,
  ⟨⟨.slSl 1 (.tmp 120) (some (.tmp 122)) (some (.tmp 124)) none, (some 125), none⟩, 1984⟩,
  ⟨⟨.call (.func 49) [(.tmp 125)], (some 126), none⟩, 4063⟩,
  ⟨⟨.bin .neq (.tmp 119) (.tmp 126), (some 127), none⟩, 8191⟩]
def o28_23 : List AOper := [⟨.load (some 4) (.tmp 2), (some 128), none⟩,
  ⟨.store 4 (.tmp 2) (.tmp 128), none, none⟩,
  ⟨.move (.const (.int .i64 0)), (some 3), none⟩,
  ⟨.move (.const (.bool true)), (some 4), none⟩]
def o28_24 : List AOper := [⟨.move (.tmp 8), (some 129), none⟩,
  ⟨.move (.tmp 9), (some 130), none⟩,
  ⟨.call (.func 47) [(.tmp 129), (.tmp 130)], (some 131), none⟩,
  ⟨.move (.tmp 8), (some 132), none⟩,
  ⟨.move (.tmp 9), (some 133), none⟩,
  ⟨.call (.func 47) [(.tmp 132), (.tmp 133)], (some 134), none⟩,
  ⟨.fieldAddr 2 (.tmp 2), (some 135), none⟩,
  ⟨.store 1 (.tmp 135) (.tmp 131), none, none⟩,
  ⟨.fieldAddr 3 (.tmp 2), (some 136), none⟩,
  ⟨.store 1 (.tmp 136) (.tmp 134), none, none⟩]
def o28_25 : List AOper := [⟨.move (.const (.int .i64 27)), (some 10), none⟩,
  ⟨.move (.const (.int .i64 0)), (some 11), none⟩]
def o28_27 : List AOper := [⟨.move (.tmp 11), (some 137), none⟩,
  ⟨.move (.tmp 7), (some 138), none⟩,
  ⟨.bin .lss (.tmp 137) (.tmp 138), (some 139), none⟩]
def d28_28 : List DOper := [⟨⟨.fieldAddr 2 (.tmp 2), (some 144), none⟩, 0⟩,
  ⟨⟨.load none (.tmp 144), (some 145), none⟩, 1⟩,
  ⟨⟨.move (.tmp 11), (some 146), none⟩, 0⟩,
  ⟨⟨.move (.tmp 9), (some 147), none⟩, 0⟩,
  ⟨⟨.bin .quo (.tmp 146) (.tmp 147), (some 148), none⟩, 12⟩,
  ⟨⟨.addrSl 1 (.tmp 145) (.tmp 148), (some 149), none⟩, 31⟩,
  ⟨⟨.load none (.tmp 149), (some 150), none⟩, 63⟩,
  ⟨⟨.move (.tmp 11), (some 151), none⟩, 0⟩,
  ⟨⟨.move (.tmp 9), (some 152), none⟩, 0⟩,
  ⟨⟨.bin .rem (.tmp 151) (.tmp 152), (some 153), none⟩, 384⟩,
  ⟨⟨.move (.tmp 0), (some 154), none⟩, 0⟩,
  ⟨⟨.move (.tmp 10), (some 155), none⟩, 0⟩,
  ⟨⟨.move (.tmp 10), (some 156), none⟩, 0⟩,
  ⟨⟨.bin .add (.tmp 156) (.const (.int .i64 2)), (some 157), none⟩, 4096⟩,
  ⟨⟨.slSl 1 (.tmp 154) (some (.tmp 155)) (some (.tmp 157)) none, (some 158), none⟩, 15360⟩,
  ⟨⟨.call (.func 49) [(.tmp 158)], (some 159), none⟩, 31744⟩,
  ⟨⟨.conv (.toInt .i16) (.tmp 159), (some 160), none⟩, 64512⟩,
  ⟨⟨.addrSl 1 (.tmp 150) (.tmp 153), (some 161), none⟩, 131071⟩,
  ⟨⟨.store 1 (.tmp 161) (.tmp 160), none, none⟩, 262143⟩]
def d28_29 : List DOper := [⟨⟨.fieldAddr 3 (.tmp 2), (some 162), none⟩, 0⟩,
  ⟨⟨.load none (.tmp 162), (some 163), none⟩, 1⟩,
  ⟨⟨.move (.tmp 11), (some 164), none⟩, 0⟩,
  ⟨⟨.move (.tmp 9), (some 165), none⟩, 0⟩,
  ⟨⟨.bin .quo (.tmp 164) (.tmp 165), (some 166), none⟩, 12⟩,
  ⟨⟨.addrSl 1 (.tmp 163) (.tmp 166), (some 167), none⟩, 31⟩,
  ⟨⟨.load none (.tmp 167), (some 168), none⟩, 63⟩,
  ⟨⟨.move (.tmp 11), (some 169), none⟩, 0⟩,
  ⟨⟨.move (.tmp 9), (some 170), none⟩, 0⟩,
  ⟨⟨.bin .rem (.tmp 169) (.tmp 170), (some 171), none⟩, 384⟩,
  ⟨⟨.move (.tmp 0), (some 172), none⟩, 0⟩,
  ⟨⟨.move (.tmp 10), (some 173), none⟩, 0⟩,
  ⟨⟨.bin .add (.tmp 173) (.const (.int .i64 2)), (some 174), none⟩, 2048⟩,
  ⟨⟨.move (.tmp 10), (some 175), none⟩, 0⟩,
  ⟨⟨.bin .add (.tmp 175) (.const (.int .i64 4)), (some 176), none⟩, 8192⟩,
  ⟨⟨.slSl 1 (.tmp 172) (some (.tmp 174)) (some (.tmp 176)) none, (some 177), none⟩, 31744⟩,
  ⟨⟨.call (.func 49) [(.tmp 177)], (some 178), none⟩, 64512⟩,
  ⟨⟨.conv (.toInt .i16) (.tmp 178), (some 179), none⟩, 130048⟩,
  ⟨⟨.addrSl 1 (.tmp 168) (.tmp 171), (some 180), none⟩, 262143⟩,
  ⟨⟨.store 1 (.tmp 180) (.tmp 179), none, none⟩, 524287⟩]
def o28_30 : List AOper := [⟨.move (.tmp 10), (some 140), none⟩,
  ⟨.bin .add (.tmp 140) (.const (.int .i64 4)), (some 141), none⟩,
  ⟨.move (.tmp 11), (some 142), none⟩,
  ⟨.bin .add (.tmp 142) (.const (.int .i64 1)), (some 143), none⟩,
  ⟨.move (.tmp 141), (some 10), none⟩,
  ⟨.move (.tmp 143), (some 11), none⟩]
def b28_26 : ACode := (.seq (.seq (.ops o28_27) (.cond (.tmp 139) .skip (.exit 0))) (.seq (.block 1 (.seq (.draw d28_28) (.draw d28_29))) (.ops o28_30)))
def o28_31 : List AOper := [⟨.load (some 4) (.tmp 2), (some 181), none⟩,
  ⟨.move (.tmp 6), (some 182), none⟩,
  ⟨.bin .add (.tmp 182) (.const (.int .i64 11)), (some 183), none⟩,
  ⟨.store 4 (.tmp 2) (.tmp 181), none, none⟩,
  ⟨.move (.tmp 183), (some 3), none⟩,
  ⟨.move (.const (.bool false)), (some 4), none⟩]
def ir28 : AFn := ⟨184, [.cell 2 (some 4), .tmp 3, .tmp 4], (.seq (.ops o28_0) (.seq (.ops o28_1) (.seq (.seq (.draw d28_2) (.cond (.tmp 21) (.seq (.ops o28_3) .ret) .skip)) (.seq (.seq (.ops o28_4) (.cond (.tmp 25) (.seq (.ops o28_5) .ret) .skip)) (.seq (.ops o28_6) (.seq (.ops o28_7) (.seq (.seq (.ops o28_8) (.cond (.tmp 44) (.seq (.ops o28_9) .ret) .skip)) (.seq (.seq (.ops o28_10) (.cond (.tmp 48) (.seq (.ops o28_11) .ret) .skip)) (.seq (.draw d28_12) (.seq (.seq (.ops o28_13) (.cond (.tmp 75) (.seq (.ops o28_14) .ret) .skip)) (.seq (.seq (.ops o28_15) (.cond (.tmp 79) (.seq (.ops o28_16) .ret) .skip)) (.seq (.draw d28_17) (.seq (.seq (.ops o28_18) (.cond (.tmp 106) (.seq (.ops o28_19) .ret) .skip)) (.seq (.seq (.ops o28_20) (.cond (.tmp 112) (.seq (.ops o28_21) .ret) .skip)) (.seq (.seq (.draw d28_22) (.cond (.tmp 127) (.seq (.ops o28_23) .ret) .skip)) (.seq (.ops o28_24) (.seq (.seq (.ops o28_25) (.block 0 (.loop b28_26))) (.seq (.ops o28_31) .ret))))))))))))))))))⟩
theorem ir28_eq : fnsOf Try.prog 28 = some ir28 := by kernel_rfl

/-! F29 lookout/lookoutref27.wrong -/
def o29_0 : List AOper := [⟨.move (.const (.bool false)), (some 2), none⟩]
def o29_1 : List AOper := [⟨.buildSlice 5 1 [(.int .u8 0)] 3 [(0, (.const (.int .u8 76))), (1, (.const (.int .u8 75))), (2, (.const (.int .u8 49)))], (some 8), none⟩,
  ⟨.move (.tmp 8), (some 3), none⟩]
def o29_2 : List AOper := [⟨.move (.const (.int .i64 0)), (some 4), none⟩]
def o29_4 : List AOper := [⟨.move (.tmp 4), (some 9), none⟩,
  ⟨.bin .lss (.tmp 9) (.const (.int .i64 3)), (some 10), none⟩,
  ⟨.move (.tmp 10), (some 11), none⟩,
  ⟨.move (.tmp 4), (some 12), (some (11, true))⟩,
  ⟨.move (.tmp 0), (some 13), (some (11, true))⟩,
  ⟨.bu .len [(.tmp 13)], (some 14), (some (11, true))⟩,
  ⟨.bin .lss (.tmp 12) (.tmp 14), (some 15), (some (11, true))⟩,
  ⟨.pick (.tmp 11) (.tmp 15) (.const (.bool false)), (some 16), none⟩]
def d29_5 : List DOper := [⟨⟨.move (.tmp 0), (some 19), none⟩, 0⟩,
  ⟨⟨.move (.tmp 4), (some 20), none⟩, 0⟩,
  ⟨⟨.addrSl 1 (.tmp 19) (.tmp 20), (some 21), none⟩, 3⟩,
  ⟨⟨.load none (.tmp 21), (some 22), none⟩, 7⟩,
  ⟨⟨.move (.tmp 3), (some 23), none⟩, 0⟩,
  ⟨⟨.move (.tmp 4), (some 24), none⟩, 0⟩,
  ⟨⟨.addrSl 1 (.tmp 23) (.tmp 24), (some 25), none⟩, 48⟩,
  ⟨⟨.load none (.tmp 25), (some 26), none⟩, 112⟩,
  ⟨⟨.bin .neq (.tmp 22) (.tmp 26), (some 27), none⟩, 255⟩]
def o29_6 : List AOper := [⟨.move (.const (.bool true)), (some 2), none⟩]
def o29_7 : List AOper := [⟨.move (.tmp 4), (some 17), none⟩,
  ⟨.bin .add (.tmp 17) (.const (.int .i64 1)), (some 18), none⟩,
  ⟨.move (.tmp 18), (some 4), none⟩]
def b29_3 : ACode := (.seq (.seq (.ops o29_4) (.cond (.tmp 16) .skip (.exit 0))) (.seq (.block 1 (.seq (.draw d29_5) (.cond (.tmp 27) (.seq (.ops o29_6) .ret) .skip))) (.ops o29_7)))
def o29_8 : List AOper := [⟨.move (.tmp 0), (some 28), none⟩,
  ⟨.bu .len [(.tmp 28)], (some 29), none⟩,
  ⟨.bin .lss (.tmp 29) (.const (.int .i64 7)), (some 30), none⟩]
def o29_9 : List AOper := [⟨.move (.const (.bool false)), (some 2), none⟩]
def o29_10 : List AOper := [⟨.move (.tmp 0), (some 31), none⟩,
  ⟨.slSl 1 (.tmp 31) (some (.const (.int .i64 3))) (some (.const (.int .i64 7))) none, (some 32), none⟩,
  ⟨.call (.func 32) [(.tmp 32)], (some 33), none⟩,
  ⟨.move (.tmp 33), (some 5), none⟩]
def o29_11 : List AOper := [⟨.move (.tmp 5), (some 34), none⟩,
  ⟨.bin .lss (.tmp 34) (.const (.int .u64 20)), (some 35), none⟩,
  ⟨.move (.tmp 35), (some 36), none⟩,
  ⟨.move (.tmp 5), (some 37), (some (36, false))⟩,
  ⟨.bin .rem (.tmp 37) (.const (.int .u64 4)), (some 38), (some (36, false))⟩,
  ⟨.bin .neq (.tmp 38) (.const (.int .u64 0)), (some 39), (some (36, false))⟩,
  ⟨.pick (.tmp 36) (.const (.bool true)) (.tmp 39), (some 40), none⟩,
  ⟨.move (.tmp 40), (some 41), none⟩,
  ⟨.move (.tmp 5), (some 42), (some (41, false))⟩,
  ⟨.bin .sub (.tmp 42) (.const (.int .u64 20)), (some 43), (some (41, false))⟩,
  ⟨.bin .quo (.tmp 43) (.const (.int .u64 4)), (some 44), (some (41, false))⟩,
  ⟨.bin .gtr (.tmp 44) (.const (.int .u64 262144)), (some 45), (some (41, false))⟩,
  ⟨.pick (.tmp 41) (.const (.bool true)) (.tmp 45), (some 46), none⟩]
def o29_12 : List AOper := [⟨.move (.const (.bool true)), (some 2), none⟩]
def o29_13 : List AOper := [⟨.move (.tmp 0), (some 47), none⟩,
  ⟨.bu .len [(.tmp 47)], (some 48), none⟩,
  ⟨.bin .lss (.tmp 48) (.const (.int .i64 23)), (some 49), none⟩]
def o29_14 : List AOper := [⟨.move (.const (.bool false)), (some 2), none⟩]
def o29_15 : List AOper := [⟨.move (.tmp 0), (some 50), none⟩,
  ⟨.slSl 1 (.tmp 50) (some (.const (.int .i64 7))) (some (.const (.int .i64 15))) none, (some 51), none⟩,
  ⟨.call (.func 32) [(.tmp 51)], (some 52), none⟩,
  ⟨.ext 1 50 [(.tmp 52)], (some 53), none⟩,
  ⟨.call (.func 51) [(.tmp 53)], (some 54), none⟩,
  ⟨.un .not (.tmp 54), (some 55), none⟩,
  ⟨.move (.tmp 55), (some 56), none⟩,
  ⟨.move (.tmp 0), (some 57), (some (56, false))⟩,
  ⟨.slSl 1 (.tmp 57) (some (.const (.int .i64 15))) (some (.const (.int .i64 23))) none, (some 58), (some (56, false))⟩,
  ⟨.call (.func 32) [(.tmp 58)], (some 59), (some (56, false))⟩,
  ⟨.ext 1 50 [(.tmp 59)], (some 60), (some (56, false))⟩,
  ⟨.call (.func 52) [(.tmp 60)], (some 61), (some (56, false))⟩,
  ⟨.un .not (.tmp 61), (some 62), (some (56, false))⟩,
  ⟨.pick (.tmp 56) (.const (.bool true)) (.tmp 62), (some 63), none⟩]
def o29_16 : List AOper := [⟨.move (.const (.bool true)), (some 2), none⟩]
def o29_17 : List AOper := [⟨.move (.tmp 0), (some 64), none⟩,
  ⟨.bu .len [(.tmp 64)], (some 65), none⟩,
  ⟨.bin .lss (.tmp 65) (.const (.int .i64 27)), (some 66), none⟩]
def o29_18 : List AOper := [⟨.move (.const (.bool false)), (some 2), none⟩]
def o29_19 : List AOper := [⟨.move (.tmp 0), (some 67), none⟩,
  ⟨.slSl 1 (.tmp 67) (some (.const (.int .i64 23))) (some (.const (.int .i64 25))) none, (some 68), none⟩,
  ⟨.call (.func 32) [(.tmp 68)], (some 69), none⟩,
  ⟨.move (.tmp 69), (some 6), none⟩]
def o29_20 : List AOper := [⟨.move (.tmp 0), (some 70), none⟩,
  ⟨.slSl 1 (.tmp 70) (some (.const (.int .i64 25))) (some (.const (.int .i64 27))) none, (some 71), none⟩,
  ⟨.call (.func 32) [(.tmp 71)], (some 72), none⟩,
  ⟨.move (.tmp 72), (some 7), none⟩]
def o29_21 : List AOper := [⟨.move (.tmp 6), (some 73), none⟩,
  ⟨.bin .gtr (.tmp 73) (.const (.int .u64 256)), (some 74), none⟩,
  ⟨.move (.tmp 74), (some 75), none⟩,
  ⟨.move (.tmp 7), (some 76), (some (75, false))⟩,
  ⟨.bin .gtr (.tmp 76) (.const (.int .u64 16384)), (some 77), (some (75, false))⟩,
  ⟨.pick (.tmp 75) (.const (.bool true)) (.tmp 77), (some 78), none⟩,
  ⟨.move (.tmp 78), (some 79), none⟩,
  ⟨.move (.tmp 6), (some 80), (some (79, false))⟩,
  ⟨.bin .eql (.tmp 80) (.const (.int .u64 0)), (some 81), (some (79, false))⟩,
  ⟨.move (.tmp 81), (some 82), (some (79, false))⟩,
  ⟨.move (.tmp 7), (some 83), (some (82, true))⟩,
  ⟨.bin .gtr (.tmp 83) (.const (.int .u64 0)), (some 84), (some (82, true))⟩,
  ⟨.pick (.tmp 82) (.tmp 84) (.const (.bool false)), (some 85), (some (79, false))⟩,
  ⟨.pick (.tmp 79) (.const (.bool true)) (.tmp 85), (some 86), none⟩,
  ⟨.move (.tmp 86), (some 87), none⟩,
  ⟨.move (.tmp 6), (some 88), (some (87, false))⟩,
  ⟨.move (.tmp 7), (some 89), (some (87, false))⟩,
  ⟨.bin .mul (.tmp 88) (.tmp 89), (some 90), (some (87, false))⟩,
  ⟨.move (.tmp 5), (some 91), (some (87, false))⟩,
  ⟨.bin .sub (.tmp 91) (.const (.int .u64 20)), (some 92), (some (87, false))⟩,
  ⟨.bin .quo (.tmp 92) (.const (.int .u64 4)), (some 93), (some (87, false))⟩,
  ⟨.bin .neq (.tmp 90) (.tmp 93), (some 94), (some (87, false))⟩,
  ⟨.pick (.tmp 87) (.const (.bool true)) (.tmp 94), (some 95), none⟩,
  ⟨.move (.tmp 95), (some 2), none⟩]
def ir29 : AFn := ⟨96, [.tmp 2], (.seq (.ops o29_0) (.seq (.ops o29_1) (.seq (.seq (.ops o29_2) (.block 0 (.loop b29_3))) (.seq (.seq (.ops o29_8) (.cond (.tmp 30) (.seq (.ops o29_9) .ret) .skip)) (.seq (.ops o29_10) (.seq (.seq (.ops o29_11) (.cond (.tmp 46) (.seq (.ops o29_12) .ret) .skip)) (.seq (.seq (.ops o29_13) (.cond (.tmp 49) (.seq (.ops o29_14) .ret) .skip)) (.seq (.seq (.ops o29_15) (.cond (.tmp 63) (.seq (.ops o29_16) .ret) .skip)) (.seq (.seq (.ops o29_17) (.cond (.tmp 66) (.seq (.ops o29_18) .ret) .skip)) (.seq (.ops o29_19) (.seq (.ops o29_20) (.seq (.ops o29_21) .ret))))))))))))⟩
theorem ir29_eq : fnsOf Try.prog 29 = some ir29 := by kernel_rfl

/-! F30 lookout/lookoutref27.size -/
def o30_0 : List AOper := [⟨.move (.const (.int .i64 0)), (some 2), none⟩]
def o30_1 : List AOper := [⟨.move (.tmp 0), (some 3), none⟩,
  ⟨.bu .len [(.tmp 3)], (some 4), none⟩,
  ⟨.bin .lss (.tmp 4) (.const (.int .i64 27)), (some 5), none⟩]
def o30_2 : List AOper := [⟨.move (.const (.int .i64 0)), (some 2), none⟩]
def o30_3 : List AOper := [⟨.move (.tmp 0), (some 6), none⟩,
  ⟨.slSl 1 (.tmp 6) (some (.const (.int .i64 3))) (some (.const (.int .i64 7))) none, (some 7), none⟩,
  ⟨.call (.func 32) [(.tmp 7)], (some 8), none⟩,
  ⟨.conv (.toInt .i64) (.tmp 8), (some 9), none⟩,
  ⟨.bin .add (.tmp 9) (.const (.int .i64 11)), (some 10), none⟩,
  ⟨.move (.tmp 10), (some 2), none⟩]
def ir30 : AFn := ⟨11, [.tmp 2], (.seq (.ops o30_0) (.seq (.seq (.ops o30_1) (.cond (.tmp 5) (.seq (.ops o30_2) .ret) .skip)) (.seq (.ops o30_3) .ret)))⟩
theorem ir30_eq : fnsOf Try.prog 30 = some ir30 := by kernel_rfl

/-! F31 lookout/lookoutref27.Sum -/
def o31_0 : List AOper := [⟨.move (.const (.int .u32 0)), (some 2), none⟩]
def o31_1 : List AOper := [⟨.move (.const (.int .u32 2166136261)), (some 3), none⟩]
def o31_2 : List AOper := [⟨.move (.const (.int .i64 0)), (some 4), none⟩]
def o31_4 : List AOper := [⟨.move (.tmp 4), (some 5), none⟩,
  ⟨.move (.tmp 0), (some 6), none⟩,
  ⟨.bu .len [(.tmp 6)], (some 7), none⟩,
  ⟨.bin .lss (.tmp 5) (.tmp 7), (some 8), none⟩]
def o31_5 : List AOper := [⟨.move (.tmp 3), (some 11), none⟩,
  ⟨.move (.tmp 0), (some 12), none⟩,
  ⟨.move (.tmp 4), (some 13), none⟩,
  ⟨.addrSl 1 (.tmp 12) (.tmp 13), (some 14), none⟩,
  ⟨.load none (.tmp 14), (some 15), none⟩,
  ⟨.conv (.toInt .u32) (.tmp 15), (some 16), none⟩,
  ⟨.bin .xor (.tmp 11) (.tmp 16), (some 17), none⟩,
  ⟨.bin .mul (.tmp 17) (.const (.int .u32 16777619)), (some 18), none⟩,
  ⟨.move (.tmp 18), (some 3), none⟩]
def o31_6 : List AOper := [⟨.move (.tmp 4), (some 9), none⟩,
  ⟨.bin .add (.tmp 9) (.const (.int .i64 1)), (some 10), none⟩,
  ⟨.move (.tmp 10), (some 4), none⟩]
def b31_3 : ACode := (.seq (.seq (.ops o31_4) (.cond (.tmp 8) .skip (.exit 0))) (.seq (.block 1 (.ops o31_5)) (.ops o31_6)))
def o31_7 : List AOper := [⟨.move (.tmp 3), (some 19), none⟩,
  ⟨.move (.tmp 19), (some 2), none⟩]
def ir31 : AFn := ⟨20, [.tmp 2], (.seq (.ops o31_0) (.seq (.ops o31_1) (.seq (.seq (.ops o31_2) (.block 0 (.loop b31_3))) (.seq (.ops o31_7) .ret))))⟩
theorem ir31_eq : fnsOf Try.prog 31 = some ir31 := by kernel_rfl

/-! F32 lookout/lookoutref27.get -/
def o32_0 : List AOper := [⟨.move (.const (.int .u64 0)), (some 2), none⟩]
def o32_1 : List AOper := [⟨.move (.const (.int .u64 0)), (some 3), none⟩]
def o32_2 : List AOper := [⟨.move (.const (.int .i64 0)), (some 4), none⟩]
def o32_4 : List AOper := [⟨.move (.tmp 4), (some 5), none⟩,
  ⟨.move (.tmp 0), (some 6), none⟩,
  ⟨.bu .len [(.tmp 6)], (some 7), none⟩,
  ⟨.bin .lss (.tmp 5) (.tmp 7), (some 8), none⟩]
def o32_5 : List AOper := [⟨.move (.tmp 3), (some 11), none⟩,
  ⟨.bin .shl (.tmp 11) (.const (.int .u64 8)), (some 12), none⟩,
  ⟨.move (.tmp 0), (some 13), none⟩,
  ⟨.move (.tmp 4), (some 14), none⟩,
  ⟨.addrSl 1 (.tmp 13) (.tmp 14), (some 15), none⟩,
  ⟨.load none (.tmp 15), (some 16), none⟩,
  ⟨.conv (.toInt .u64) (.tmp 16), (some 17), none⟩,
  ⟨.bin .or (.tmp 12) (.tmp 17), (some 18), none⟩,
  ⟨.move (.tmp 18), (some 3), none⟩]
def o32_6 : List AOper := [⟨.move (.tmp 4), (some 9), none⟩,
  ⟨.bin .add (.tmp 9) (.const (.int .i64 1)), (some 10), none⟩,
  ⟨.move (.tmp 10), (some 4), none⟩]
def b32_3 : ACode := (.seq (.seq (.ops o32_4) (.cond (.tmp 8) .skip (.exit 0))) (.seq (.block 1 (.ops o32_5)) (.ops o32_6)))
def o32_7 : List AOper := [⟨.move (.tmp 3), (some 19), none⟩,
  ⟨.move (.tmp 19), (some 2), none⟩]
def ir32 : AFn := ⟨20, [.tmp 2], (.seq (.ops o32_0) (.seq (.ops o32_1) (.seq (.seq (.ops o32_2) (.block 0 (.loop b32_3))) (.seq (.ops o32_7) .ret))))⟩
theorem ir32_eq : fnsOf Try.prog 32 = some ir32 := by kernel_rfl

/-! F33 lookout/lookoutref27.whole -/
def o33_0 : List AOper := [⟨.alloc 42 [(.float .f64 0), (.float .f64 0), (.slice none 0 0), (.slice none 0 0)], (some 2), none⟩]
def d33_1 : List DOper := [⟨⟨.move (.tmp 0), (some 11), none⟩, 0⟩,
  ⟨⟨.slSl 1 (.tmp 11) (some (.const (.int .i64 7))) (some (.const (.int .i64 15))) none, (some 12), none⟩, 1⟩,
  ⟨⟨.call (.func 32) [(.tmp 12)], (some 13), none⟩, 3⟩,
  ⟨⟨.ext 1 50 [(.tmp 13)], (some 14), none⟩, 7⟩,
  ⟨⟨.move (.tmp 0), (some 15), none⟩, 0⟩,
  ⟨⟨.slSl 1 (.tmp 15) (some (.const (.int .i64 15))) (some (.const (.int .i64 23))) none, (some 16), none⟩, 16⟩,
  ⟨⟨.call (.func 32) [(.tmp 16)], (some 17), none⟩, 63⟩,
  ⟨⟨.ext 1 50 [(.tmp 17)], (some 18), none⟩, 127⟩,
  ⟨⟨.build [(.float .f64 0), (.float .f64 0), (.slice none 0 0), (.slice none 0 0)] [(0, 1, (.tmp 14)), (1, 1, (.tmp 18))], (some 19), none⟩, 255⟩,
  ⟨⟨.alloc 42 [(.float .f64 0), (.float .f64 0), (.slice none 0 0), (.slice none 0 0)], (some 3), none⟩, 0⟩,
  ⟨⟨.store 4 (.tmp 3) (.tmp 19), none, none⟩, 1023⟩]
def o33_2 : List AOper := [⟨.move (.tmp 0), (some 20), none⟩,
  ⟨.slSl 1 (.tmp 20) (some (.const (.int .i64 23))) (some (.const (.int .i64 25))) none, (some 21), none⟩,
  ⟨.call (.func 32) [(.tmp 21)], (some 22), none⟩,
  ⟨.conv (.toInt .i64) (.tmp 22), (some 23), none⟩,
  ⟨.move (.tmp 23), (some 4), none⟩]
def o33_3 : List AOper := [⟨.move (.tmp 0), (some 24), none⟩,
  ⟨.slSl 1 (.tmp 24) (some (.const (.int .i64 25))) (some (.const (.int .i64 27))) none, (some 25), none⟩,
  ⟨.call (.func 32) [(.tmp 25)], (some 26), none⟩,
  ⟨.conv (.toInt .i64) (.tmp 26), (some 27), none⟩,
  ⟨.move (.tmp 27), (some 5), none⟩]
def o33_4 : List AOper := [⟨.move (.const (.int .i64 27)), (some 6), none⟩]
def o33_5 : List AOper := [⟨.move (.const (.int .i64 0)), (some 7), none⟩]
def o33_7 : List AOper := [⟨.move (.tmp 7), (some 28), none⟩,
  ⟨.move (.tmp 4), (some 29), none⟩,
  ⟨.bin .lss (.tmp 28) (.tmp 29), (some 30), none⟩]
def o33_8 : List AOper := [⟨.move (.tmp 5), (some 33), none⟩,
  ⟨.makeSlice 68 2 1 [(.int .i16 0)] (.tmp 33) (.tmp 33), (some 34), none⟩,
  ⟨.move (.tmp 34), (some 8), none⟩]
def o33_9 : List AOper := [⟨.move (.tmp 5), (some 35), none⟩,
  ⟨.makeSlice 68 2 1 [(.int .i16 0)] (.tmp 35) (.tmp 35), (some 36), none⟩,
  ⟨.move (.tmp 36), (some 9), none⟩]
def o33_10 : List AOper := [⟨.move (.const (.int .i64 0)), (some 10), none⟩]
def o33_12 : List AOper := [⟨.move (.tmp 10), (some 37), none⟩,
  ⟨.move (.tmp 5), (some 38), none⟩,
  ⟨.bin .lss (.tmp 37) (.tmp 38), (some 39), none⟩]
def o33_13 : List AOper := [⟨.move (.tmp 8), (some 42), none⟩,
  ⟨.move (.tmp 10), (some 43), none⟩,
  ⟨.move (.tmp 0), (some 44), none⟩,
  ⟨.move (.tmp 6), (some 45), none⟩,
  ⟨.move (.tmp 6), (some 46), none⟩,
  ⟨.bin .add (.tmp 46) (.const (.int .i64 2)), (some 47), none⟩,
  ⟨.slSl 1 (.tmp 44) (some (.tmp 45)) (some (.tmp 47)) none, (some 48), none⟩,
  ⟨.call (.func 32) [(.tmp 48)], (some 49), none⟩,
  ⟨.conv (.toInt .u16) (.tmp 49), (some 50), none⟩,
  ⟨.conv (.toInt .i16) (.tmp 50), (some 51), none⟩,
  ⟨.addrSl 1 (.tmp 42) (.tmp 43), (some 52), none⟩,
  ⟨.store 1 (.tmp 52) (.tmp 51), none, none⟩]
def o33_14 : List AOper := [⟨.move (.tmp 9), (some 53), none⟩,
  ⟨.move (.tmp 10), (some 54), none⟩,
  ⟨.move (.tmp 0), (some 55), none⟩,
  ⟨.move (.tmp 6), (some 56), none⟩,
  ⟨.bin .add (.tmp 56) (.const (.int .i64 2)), (some 57), none⟩,
  ⟨.move (.tmp 6), (some 58), none⟩,
  ⟨.bin .add (.tmp 58) (.const (.int .i64 4)), (some 59), none⟩,
  ⟨.slSl 1 (.tmp 55) (some (.tmp 57)) (some (.tmp 59)) none, (some 60), none⟩,
  ⟨.call (.func 32) [(.tmp 60)], (some 61), none⟩,
  ⟨.conv (.toInt .u16) (.tmp 61), (some 62), none⟩,
  ⟨.conv (.toInt .i16) (.tmp 62), (some 63), none⟩,
  ⟨.addrSl 1 (.tmp 53) (.tmp 54), (some 64), none⟩,
  ⟨.store 1 (.tmp 64) (.tmp 63), none, none⟩]
def o33_15 : List AOper := [⟨.move (.tmp 6), (some 65), none⟩,
  ⟨.bin .add (.tmp 65) (.const (.int .i64 4)), (some 66), none⟩,
  ⟨.move (.tmp 66), (some 6), none⟩]
def o33_16 : List AOper := [⟨.move (.tmp 10), (some 40), none⟩,
  ⟨.bin .add (.tmp 40) (.const (.int .i64 1)), (some 41), none⟩,
  ⟨.move (.tmp 41), (some 10), none⟩]
def b33_11 : ACode := (.seq (.seq (.ops o33_12) (.cond (.tmp 39) .skip (.exit 2))) (.seq (.block 3 (.seq (.ops o33_13) (.seq (.ops o33_14) (.ops o33_15)))) (.ops o33_16)))
def o33_17 : List AOper := [⟨.fieldAddr 2 (.tmp 3), (some 67), none⟩,
  ⟨.load none (.tmp 67), (some 68), none⟩,
  ⟨.move (.tmp 8), (some 69), none⟩,
  ⟨.buildSlice 67 1 [(.slice none 0 0)] 1 [(0, (.tmp 69))], (some 70), none⟩,
  ⟨.append 67 24 1 [(.slice none 0 0)] (.tmp 68) (.tmp 70), (some 71), none⟩,
  ⟨.fieldAddr 2 (.tmp 3), (some 72), none⟩,
  ⟨.store 1 (.tmp 72) (.tmp 71), none, none⟩]
def o33_18 : List AOper := [⟨.fieldAddr 3 (.tmp 3), (some 73), none⟩,
  ⟨.load none (.tmp 73), (some 74), none⟩,
  ⟨.move (.tmp 9), (some 75), none⟩,
  ⟨.buildSlice 67 1 [(.slice none 0 0)] 1 [(0, (.tmp 75))], (some 76), none⟩,
  ⟨.append 67 24 1 [(.slice none 0 0)] (.tmp 74) (.tmp 76), (some 77), none⟩,
  ⟨.fieldAddr 3 (.tmp 3), (some 78), none⟩,
  ⟨.store 1 (.tmp 78) (.tmp 77), none, none⟩]
def o33_19 : List AOper := [⟨.move (.tmp 7), (some 31), none⟩,
  ⟨.bin .add (.tmp 31) (.const (.int .i64 1)), (some 32), none⟩,
  ⟨.move (.tmp 32), (some 7), none⟩]
def b33_6 : ACode := (.seq (.seq (.ops o33_7) (.cond (.tmp 30) .skip (.exit 0))) (.seq (.block 1 (.seq (.ops o33_8) (.seq (.ops o33_9) (.seq (.seq (.ops o33_10) (.block 2 (.loop b33_11))) (.seq (.ops o33_17) (.ops o33_18)))))) (.ops o33_19)))
def o33_20 : List AOper := [⟨.load (some 4) (.tmp 3), (some 79), none⟩,
  ⟨.store 4 (.tmp 2) (.tmp 79), none, none⟩]
def ir33 : AFn := ⟨80, [.cell 2 (some 4)], (.seq (.ops o33_0) (.seq (.draw d33_1) (.seq (.ops o33_2) (.seq (.ops o33_3) (.seq (.ops o33_4) (.seq (.seq (.ops o33_5) (.block 0 (.loop b33_6))) (.seq (.ops o33_20) .ret)))))))⟩
theorem ir33_eq : fnsOf Try.prog 33 = some ir33 := by kernel_rfl

/-! F34 lookout/tape.check -/
def o34_0 : List AOper := [⟨.box 42 (.tmp 0), (some 1), none⟩,
  ⟨.move (.const (.int .i64 0)), (some 2), none⟩,
  ⟨.move (.const (.int .i64 0)), (some 3), none⟩]
def o34_1 : List AOper := [⟨.fieldAddr 0 (.tmp 1), (some 7), none⟩,
  ⟨.load none (.tmp 7), (some 8), none⟩,
  ⟨.call (.func 45) [(.tmp 8)], (some 9), none⟩,
  ⟨.un .not (.tmp 9), (some 10), none⟩,
  ⟨.move (.tmp 10), (some 11), none⟩,
  ⟨.fieldAddr 1 (.tmp 1), (some 12), (some (11, false))⟩,
  ⟨.load none (.tmp 12), (some 13), (some (11, false))⟩,
  ⟨.call (.func 45) [(.tmp 13)], (some 14), (some (11, false))⟩,
  ⟨.un .not (.tmp 14), (some 15), (some (11, false))⟩,
  ⟨.pick (.tmp 11) (.const (.bool true)) (.tmp 15), (some 16), none⟩,
  ⟨.move (.tmp 16), (some 17), none⟩,
  ⟨.fieldAddr 1 (.tmp 1), (some 18), (some (17, false))⟩,
  ⟨.load none (.tmp 18), (some 19), (some (17, false))⟩,
  ⟨.bin .gtr (.tmp 19) (.const (.float .f64 0)), (some 20), (some (17, false))⟩,
  ⟨.un .not (.tmp 20), (some 21), (some (17, false))⟩,
  ⟨.pick (.tmp 17) (.const (.bool true)) (.tmp 21), (some 22), none⟩]
def o34_2 : List AOper := [⟨.move (.const (.int .i64 0)), (some 2), none⟩,
  ⟨.move (.const (.int .i64 6)), (some 3), none⟩]
def o34_3 : List AOper := [⟨.move (.const (.int .i64 0)), (some 4), none⟩]
def o34_4 : List AOper := [⟨.fieldAddr 2 (.tmp 1), (some 23), none⟩,
  ⟨.load none (.tmp 23), (some 24), none⟩,
  ⟨.bu .len [(.tmp 24)], (some 25), none⟩,
  ⟨.bin .gtr (.tmp 25) (.const (.int .i64 0)), (some 26), none⟩]
def o34_5 : List AOper := [⟨.fieldAddr 2 (.tmp 1), (some 27), none⟩,
  ⟨.load none (.tmp 27), (some 28), none⟩,
  ⟨.addrSl 1 (.tmp 28) (.const (.int .i64 0)), (some 29), none⟩,
  ⟨.load none (.tmp 29), (some 30), none⟩,
  ⟨.bu .len [(.tmp 30)], (some 31), none⟩,
  ⟨.move (.tmp 31), (some 4), none⟩]
def o34_6 : List AOper := [⟨.fieldAddr 2 (.tmp 1), (some 32), none⟩,
  ⟨.load none (.tmp 32), (some 33), none⟩,
  ⟨.bu .len [(.tmp 33)], (some 34), none⟩,
  ⟨.fieldAddr 3 (.tmp 1), (some 35), none⟩,
  ⟨.load none (.tmp 35), (some 36), none⟩,
  ⟨.bu .len [(.tmp 36)], (some 37), none⟩,
  ⟨.bin .eql (.tmp 34) (.tmp 37), (some 38), none⟩,
  ⟨.move (.tmp 38), (some 5), none⟩]
def o34_7 : List AOper := [⟨.move (.const (.int .i64 0)), (some 6), none⟩]
def o34_9 : List AOper := [⟨.move (.tmp 5), (some 39), none⟩,
  ⟨.move (.tmp 39), (some 40), none⟩,
  ⟨.move (.tmp 6), (some 41), (some (40, true))⟩,
  ⟨.fieldAddr 2 (.tmp 1), (some 42), (some (40, true))⟩,
  ⟨.load none (.tmp 42), (some 43), (some (40, true))⟩,
  ⟨.bu .len [(.tmp 43)], (some 44), (some (40, true))⟩,
  ⟨.bin .lss (.tmp 41) (.tmp 44), (some 45), (some (40, true))⟩,
  ⟨.pick (.tmp 40) (.tmp 45) (.const (.bool false)), (some 46), none⟩]
def o34_10 : List AOper := [⟨.fieldAddr 2 (.tmp 1), (some 49), none⟩,
  ⟨.load none (.tmp 49), (some 50), none⟩,
  ⟨.move (.tmp 6), (some 51), none⟩,
  ⟨.addrSl 1 (.tmp 50) (.tmp 51), (some 52), none⟩,
  ⟨.load none (.tmp 52), (some 53), none⟩,
  ⟨.bu .len [(.tmp 53)], (some 54), none⟩,
  ⟨.move (.tmp 4), (some 55), none⟩,
  ⟨.bin .eql (.tmp 54) (.tmp 55), (some 56), none⟩,
  ⟨.move (.tmp 56), (some 57), none⟩,
  ⟨.fieldAddr 3 (.tmp 1), (some 58), (some (57, true))⟩,
  ⟨.load none (.tmp 58), (some 59), (some (57, true))⟩,
  ⟨.move (.tmp 6), (some 60), (some (57, true))⟩,
  ⟨.addrSl 1 (.tmp 59) (.tmp 60), (some 61), (some (57, true))⟩,
  ⟨.load none (.tmp 61), (some 62), (some (57, true))⟩,
  ⟨.bu .len [(.tmp 62)], (some 63), (some (57, true))⟩,
  ⟨.move (.tmp 4), (some 64), (some (57, true))⟩,
  ⟨.bin .eql (.tmp 63) (.tmp 64), (some 65), (some (57, true))⟩,
  ⟨.pick (.tmp 57) (.tmp 65) (.const (.bool false)), (some 66), none⟩,
  ⟨.move (.tmp 66), (some 5), none⟩]
def o34_11 : List AOper := [⟨.move (.tmp 6), (some 47), none⟩,
  ⟨.bin .add (.tmp 47) (.const (.int .i64 1)), (some 48), none⟩,
  ⟨.move (.tmp 48), (some 6), none⟩]
def b34_8 : ACode := (.seq (.seq (.ops o34_9) (.cond (.tmp 46) .skip (.exit 0))) (.seq (.block 1 (.ops o34_10)) (.ops o34_11)))
def o34_12 : List AOper := [⟨.move (.tmp 5), (some 68), none⟩,
  ⟨.un .not (.tmp 68), (some 69), none⟩,
  ⟨.move (.tmp 69), (some 67), none⟩]
def o34_13 : List AOper := [⟨.move (.const (.int .i64 0)), (some 2), none⟩,
  ⟨.move (.const (.int .i64 5)), (some 3), none⟩]
def o34_14 : List AOper := [⟨.fieldAddr 2 (.tmp 1), (some 71), none⟩,
  ⟨.load none (.tmp 71), (some 72), none⟩,
  ⟨.bu .len [(.tmp 72)], (some 73), none⟩,
  ⟨.move (.tmp 4), (some 74), none⟩,
  ⟨.call (.func 46) [(.tmp 73), (.tmp 74)], (some 75), none⟩,
  ⟨.move (.tmp 75), (some 70), none⟩]
def o34_15 : List AOper := [⟨.move (.const (.int .i64 0)), (some 2), none⟩,
  ⟨.move (.const (.int .i64 3)), (some 3), none⟩]
def o34_16 : List AOper := [⟨.move (.tmp 4), (some 76), none⟩,
  ⟨.move (.tmp 76), (some 2), none⟩,
  ⟨.move (.const (.int .i64 0)), (some 3), none⟩]
def ir34 : AFn := ⟨77, [.tmp 2, .tmp 3], (.seq (.ops o34_0) (.seq (.seq (.ops o34_1) (.cond (.tmp 22) (.seq (.ops o34_2) .ret) .skip)) (.seq (.ops o34_3) (.seq (.seq (.ops o34_4) (.cond (.tmp 26) (.ops o34_5) .skip)) (.seq (.ops o34_6) (.seq (.seq (.ops o34_7) (.block 0 (.loop b34_8))) (.seq (.block 2 (.seq (.ops o34_12) (.cond (.tmp 67) (.seq (.ops o34_13) .ret) (.seq (.ops o34_14) (.cond (.tmp 70) (.seq (.ops o34_15) .ret) .skip))))) (.seq (.ops o34_16) .ret))))))))⟩
theorem ir34_eq : fnsOf Try.prog 34 = some ir34 := by kernel_rfl

/-! F35 lookout/tape.put -/
def o35_0 : List AOper := [⟨.move (.const (.slice none 0 0)), (some 6), none⟩]
def o35_2 : List AOper := [⟨.move (.tmp 2), (some 7), none⟩,
  ⟨.bin .gtr (.tmp 7) (.const (.int .i64 0)), (some 8), none⟩]
def o35_3 : List AOper := [⟨.move (.tmp 2), (some 9), none⟩,
  ⟨.bin .sub (.tmp 9) (.const (.int .i64 1)), (some 10), none⟩,
  ⟨.move (.tmp 10), (some 2), none⟩]
def o35_4 : List AOper := [⟨.move (.tmp 0), (some 11), none⟩,
  ⟨.move (.tmp 1), (some 12), none⟩,
  ⟨.move (.tmp 2), (some 13), none⟩,
  ⟨.bin .mul (.const (.int .i64 8)) (.tmp 13), (some 14), none⟩,
  ⟨.bin .shr (.tmp 12) (.tmp 14), (some 15), none⟩,
  ⟨.conv (.toInt .u8) (.tmp 15), (some 16), none⟩,
  ⟨.buildSlice 5 1 [(.int .u8 0)] 1 [(0, (.tmp 16))], (some 17), none⟩,
  ⟨.append 5 1 1 [(.int .u8 0)] (.tmp 11) (.tmp 17), (some 18), none⟩,
  ⟨.move (.tmp 18), (some 0), none⟩]
def b35_1 : ACode := (.seq (.seq (.ops o35_2) (.cond (.tmp 8) .skip (.exit 0))) (.block 1 (.seq (.ops o35_3) (.ops o35_4))))
def o35_5 : List AOper := [⟨.move (.tmp 0), (some 19), none⟩,
  ⟨.move (.tmp 19), (some 6), none⟩]
def ir35 : AFn := ⟨20, [.tmp 6], (.seq (.ops o35_0) (.seq (.block 0 (.loop b35_1)) (.seq (.ops o35_5) .ret)))⟩
theorem ir35_eq : fnsOf Try.prog 35 = some ir35 := by kernel_rfl

/-! F37 lookout/tape.sum -/
def o37_0 : List AOper := [⟨.move (.const (.int .u32 0)), (some 2), none⟩]
def o37_1 : List AOper := [⟨.move (.const (.int .u32 2166136261)), (some 3), none⟩]
def o37_2 : List AOper := [⟨.move (.tmp 0), (some 6), none⟩,
  ⟨.bu .len [(.tmp 6)], (some 7), none⟩,
  ⟨.move (.const (.int .i64 0)), (some 8), none⟩]
def o37_4 : List AOper := [⟨.bin .lss (.tmp 8) (.tmp 7), (some 9), none⟩]
def o37_5 : List AOper := [⟨.addrSl 1 (.tmp 6) (.tmp 8), (some 10), none⟩,
  ⟨.load none (.tmp 10), (some 11), none⟩,
  ⟨.move (.tmp 11), (some 5), none⟩]
def o37_6 : List AOper := [⟨.move (.tmp 3), (some 12), none⟩,
  ⟨.move (.tmp 5), (some 13), none⟩,
  ⟨.conv (.toInt .u32) (.tmp 13), (some 14), none⟩,
  ⟨.bin .xor (.tmp 12) (.tmp 14), (some 15), none⟩,
  ⟨.move (.tmp 15), (some 3), none⟩]
def o37_7 : List AOper := [⟨.move (.tmp 3), (some 16), none⟩,
  ⟨.bin .mul (.tmp 16) (.const (.int .u32 16777619)), (some 17), none⟩,
  ⟨.move (.tmp 17), (some 3), none⟩]
def o37_8 : List AOper := [⟨.bin .add (.tmp 8) (.const (.int .i64 1)), (some 18), none⟩,
  ⟨.move (.tmp 18), (some 8), none⟩]
def b37_3 : ACode := (.seq (.ops o37_4) (.seq (.cond (.tmp 9) .skip (.exit 0)) (.seq (.block 1 (.seq (.ops o37_5) (.seq (.ops o37_6) (.ops o37_7)))) (.ops o37_8))))
def o37_9 : List AOper := [⟨.move (.tmp 3), (some 19), none⟩,
  ⟨.move (.tmp 19), (some 2), none⟩]
def ir37 : AFn := ⟨20, [.tmp 2], (.seq (.ops o37_0) (.seq (.ops o37_1) (.seq (.seq (.ops o37_2) (.block 0 (.loop b37_3))) (.seq (.ops o37_9) .ret))))⟩
theorem ir37_eq : fnsOf Try.prog 37 = some ir37 := by kernel_rfl

/-! F38 lookout/lookoutref27.Check -/
def o38_0 : List AOper := [⟨.box 42 (.tmp 0), (some 1), none⟩,
  ⟨.move (.const (.int .i64 0)), (some 2), none⟩]
def o38_1 : List AOper := [⟨.fieldAddr 0 (.tmp 1), (some 5), none⟩,
  ⟨.load none (.tmp 5), (some 6), none⟩,
  ⟨.call (.func 51) [(.tmp 6)], (some 7), none⟩,
  ⟨.un .not (.tmp 7), (some 8), none⟩,
  ⟨.move (.tmp 8), (some 9), none⟩,
  ⟨.fieldAddr 1 (.tmp 1), (some 10), (some (9, false))⟩,
  ⟨.load none (.tmp 10), (some 11), (some (9, false))⟩,
  ⟨.call (.func 52) [(.tmp 11)], (some 12), (some (9, false))⟩,
  ⟨.un .not (.tmp 12), (some 13), (some (9, false))⟩,
  ⟨.pick (.tmp 9) (.const (.bool true)) (.tmp 13), (some 14), none⟩]
def o38_2 : List AOper := [⟨.move (.const (.int .i64 6)), (some 2), none⟩]
def o38_3 : List AOper := [⟨.load (some 4) (.tmp 1), (some 16), none⟩,
  ⟨.call (.func 39) [(.tmp 16)], (some 17), none⟩,
  ⟨.move (.tmp 17), (some 15), none⟩,
  ⟨.extract (.tmp 15) 0, (some 18), none⟩,
  ⟨.extract (.tmp 15) 1, (some 19), none⟩,
  ⟨.move (.tmp 18), (some 3), none⟩,
  ⟨.move (.tmp 19), (some 4), none⟩]
def o38_4 : List AOper := [⟨.move (.tmp 4), (some 20), none⟩,
  ⟨.un .not (.tmp 20), (some 21), none⟩]
def o38_5 : List AOper := [⟨.move (.const (.int .i64 5)), (some 2), none⟩]
def o38_6 : List AOper := [⟨.fieldAddr 2 (.tmp 1), (some 22), none⟩,
  ⟨.load none (.tmp 22), (some 23), none⟩,
  ⟨.bu .len [(.tmp 23)], (some 24), none⟩,
  ⟨.move (.tmp 3), (some 25), none⟩,
  ⟨.call (.func 53) [(.tmp 24), (.tmp 25)], (some 26), none⟩]
def o38_7 : List AOper := [⟨.move (.const (.int .i64 3)), (some 2), none⟩]
def o38_8 : List AOper := [⟨.move (.const (.int .i64 0)), (some 2), none⟩]
def ir38 : AFn := ⟨27, [.tmp 2], (.seq (.ops o38_0) (.seq (.seq (.ops o38_1) (.cond (.tmp 14) (.seq (.ops o38_2) .ret) .skip)) (.seq (.ops o38_3) (.seq (.seq (.ops o38_4) (.cond (.tmp 21) (.seq (.ops o38_5) .ret) .skip)) (.seq (.seq (.ops o38_6) (.cond (.tmp 26) (.seq (.ops o38_7) .ret) .skip)) (.seq (.ops o38_8) .ret))))))⟩
theorem ir38_eq : fnsOf Try.prog 38 = some ir38 := by kernel_rfl

/-! F39 lookout/lookoutref27.columns -/
def o39_0 : List AOper := [⟨.box 42 (.tmp 0), (some 1), none⟩,
  ⟨.move (.const (.int .i64 0)), (some 2), none⟩,
  ⟨.move (.const (.bool false)), (some 3), none⟩]
def o39_1 : List AOper := [⟨.fieldAddr 2 (.tmp 1), (some 6), none⟩,
  ⟨.load none (.tmp 6), (some 7), none⟩,
  ⟨.bu .len [(.tmp 7)], (some 8), none⟩,
  ⟨.fieldAddr 3 (.tmp 1), (some 9), none⟩,
  ⟨.load none (.tmp 9), (some 10), none⟩,
  ⟨.bu .len [(.tmp 10)], (some 11), none⟩,
  ⟨.bin .neq (.tmp 8) (.tmp 11), (some 12), none⟩]
def o39_2 : List AOper := [⟨.move (.const (.int .i64 0)), (some 2), none⟩,
  ⟨.move (.const (.bool false)), (some 3), none⟩]
def o39_3 : List AOper := [⟨.fieldAddr 2 (.tmp 1), (some 13), none⟩,
  ⟨.load none (.tmp 13), (some 14), none⟩,
  ⟨.bu .len [(.tmp 14)], (some 15), none⟩,
  ⟨.bin .eql (.tmp 15) (.const (.int .i64 0)), (some 16), none⟩]
def o39_4 : List AOper := [⟨.move (.const (.int .i64 0)), (some 2), none⟩,
  ⟨.move (.const (.bool true)), (some 3), none⟩]
def o39_5 : List AOper := [⟨.fieldAddr 2 (.tmp 1), (some 17), none⟩,
  ⟨.load none (.tmp 17), (some 18), none⟩,
  ⟨.addrSl 1 (.tmp 18) (.const (.int .i64 0)), (some 19), none⟩,
  ⟨.load none (.tmp 19), (some 20), none⟩,
  ⟨.bu .len [(.tmp 20)], (some 21), none⟩,
  ⟨.move (.tmp 21), (some 4), none⟩]
def o39_6 : List AOper := [⟨.move (.const (.int .i64 0)), (some 5), none⟩]
def o39_8 : List AOper := [⟨.move (.tmp 5), (some 22), none⟩,
  ⟨.fieldAddr 2 (.tmp 1), (some 23), none⟩,
  ⟨.load none (.tmp 23), (some 24), none⟩,
  ⟨.bu .len [(.tmp 24)], (some 25), none⟩,
  ⟨.bin .lss (.tmp 22) (.tmp 25), (some 26), none⟩]
def o39_9 : List AOper := [⟨.fieldAddr 2 (.tmp 1), (some 29), none⟩,
  ⟨.load none (.tmp 29), (some 30), none⟩,
  ⟨.move (.tmp 5), (some 31), none⟩,
  ⟨.addrSl 1 (.tmp 30) (.tmp 31), (some 32), none⟩,
  ⟨.load none (.tmp 32), (some 33), none⟩,
  ⟨.bu .len [(.tmp 33)], (some 34), none⟩,
  ⟨.move (.tmp 4), (some 35), none⟩,
  ⟨.bin .neq (.tmp 34) (.tmp 35), (some 36), none⟩,
  ⟨.move (.tmp 36), (some 37), none⟩,
  ⟨.fieldAddr 3 (.tmp 1), (some 38), (some (37, false))⟩,
  ⟨.load none (.tmp 38), (some 39), (some (37, false))⟩,
  ⟨.move (.tmp 5), (some 40), (some (37, false))⟩,
  ⟨.addrSl 1 (.tmp 39) (.tmp 40), (some 41), (some (37, false))⟩,
  ⟨.load none (.tmp 41), (some 42), (some (37, false))⟩,
  ⟨.bu .len [(.tmp 42)], (some 43), (some (37, false))⟩,
  ⟨.move (.tmp 4), (some 44), (some (37, false))⟩,
  ⟨.bin .neq (.tmp 43) (.tmp 44), (some 45), (some (37, false))⟩,
  ⟨.pick (.tmp 37) (.const (.bool true)) (.tmp 45), (some 46), none⟩]
def o39_10 : List AOper := [⟨.move (.const (.int .i64 0)), (some 2), none⟩,
  ⟨.move (.const (.bool false)), (some 3), none⟩]
def o39_11 : List AOper := [⟨.move (.tmp 5), (some 27), none⟩,
  ⟨.bin .add (.tmp 27) (.const (.int .i64 1)), (some 28), none⟩,
  ⟨.move (.tmp 28), (some 5), none⟩]
def b39_7 : ACode := (.seq (.seq (.ops o39_8) (.cond (.tmp 26) .skip (.exit 0))) (.seq (.block 1 (.seq (.ops o39_9) (.cond (.tmp 46) (.seq (.ops o39_10) .ret) .skip))) (.ops o39_11)))
def o39_12 : List AOper := [⟨.move (.tmp 4), (some 47), none⟩,
  ⟨.move (.tmp 47), (some 2), none⟩,
  ⟨.move (.const (.bool true)), (some 3), none⟩]
def ir39 : AFn := ⟨48, [.tmp 2, .tmp 3], (.seq (.ops o39_0) (.seq (.seq (.ops o39_1) (.cond (.tmp 12) (.seq (.ops o39_2) .ret) .skip)) (.seq (.seq (.ops o39_3) (.cond (.tmp 16) (.seq (.ops o39_4) .ret) .skip)) (.seq (.ops o39_5) (.seq (.seq (.ops o39_6) (.block 0 (.loop b39_7))) (.seq (.ops o39_12) .ret))))))⟩
theorem ir39_eq : fnsOf Try.prog 39 = some ir39 := by kernel_rfl

/-! F40 lookout/lookoutref27.put -/
def o40_0 : List AOper := [⟨.move (.const (.slice none 0 0)), (some 6), none⟩]
def o40_1 : List AOper := [⟨.move (.tmp 2), (some 8), none⟩,
  ⟨.bin .sub (.tmp 8) (.const (.int .i64 1)), (some 9), none⟩,
  ⟨.move (.tmp 9), (some 7), none⟩]
def o40_3 : List AOper := [⟨.move (.tmp 7), (some 10), none⟩,
  ⟨.bin .geq (.tmp 10) (.const (.int .i64 0)), (some 11), none⟩]
def o40_4 : List AOper := [⟨.move (.tmp 0), (some 14), none⟩,
  ⟨.move (.tmp 1), (some 15), none⟩,
  ⟨.move (.tmp 7), (some 16), none⟩,
  ⟨.bin .mul (.const (.int .i64 8)) (.tmp 16), (some 17), none⟩,
  ⟨.bin .shr (.tmp 15) (.tmp 17), (some 18), none⟩,
  ⟨.conv (.toInt .u8) (.tmp 18), (some 19), none⟩,
  ⟨.buildSlice 5 1 [(.int .u8 0)] 1 [(0, (.tmp 19))], (some 20), none⟩,
  ⟨.append 5 1 1 [(.int .u8 0)] (.tmp 14) (.tmp 20), (some 21), none⟩,
  ⟨.move (.tmp 21), (some 0), none⟩]
def o40_5 : List AOper := [⟨.move (.tmp 7), (some 12), none⟩,
  ⟨.bin .sub (.tmp 12) (.const (.int .i64 1)), (some 13), none⟩,
  ⟨.move (.tmp 13), (some 7), none⟩]
def b40_2 : ACode := (.seq (.seq (.ops o40_3) (.cond (.tmp 11) .skip (.exit 0))) (.seq (.block 1 (.ops o40_4)) (.ops o40_5)))
def o40_6 : List AOper := [⟨.move (.tmp 0), (some 22), none⟩,
  ⟨.move (.tmp 22), (some 6), none⟩]
def ir40 : AFn := ⟨23, [.tmp 6], (.seq (.ops o40_0) (.seq (.seq (.ops o40_1) (.block 0 (.loop b40_2))) (.seq (.ops o40_6) .ret)))⟩
theorem ir40_eq : fnsOf Try.prog 40 = some ir40 := by kernel_rfl

/-! F41 lookout/lookoutref01.SameList -/
def o41_0 : List AOper := [⟨.move (.const (.bool false)), (some 4), none⟩]
def o41_1 : List AOper := [⟨.move (.tmp 0), (some 7), none⟩,
  ⟨.bu .len [(.tmp 7)], (some 8), none⟩,
  ⟨.move (.tmp 1), (some 9), none⟩,
  ⟨.bu .len [(.tmp 9)], (some 10), none⟩,
  ⟨.bin .neq (.tmp 8) (.tmp 10), (some 11), none⟩]
def o41_2 : List AOper := [⟨.move (.const (.bool false)), (some 4), none⟩]
def o41_3 : List AOper := [⟨.move (.const (.int .i64 0)), (some 5), none⟩]
def o41_5 : List AOper := [⟨.move (.tmp 5), (some 12), none⟩,
  ⟨.move (.tmp 0), (some 13), none⟩,
  ⟨.bu .len [(.tmp 13)], (some 14), none⟩,
  ⟨.bin .lss (.tmp 12) (.tmp 14), (some 15), none⟩]
def d41_6 : List DOper := [⟨⟨.move (.tmp 0), (some 18), none⟩, 0⟩,
  ⟨⟨.move (.tmp 5), (some 19), none⟩, 0⟩,
  ⟨⟨.addrSl 2 (.tmp 18) (.tmp 19), (some 20), none⟩, 3⟩,
  ⟨⟨.load (some 2) (.tmp 20), (some 21), none⟩, 7⟩,
  ⟨⟨.move (.tmp 1), (some 22), none⟩, 0⟩,
  ⟨⟨.move (.tmp 5), (some 23), none⟩, 0⟩,
  ⟨⟨.addrSl 2 (.tmp 22) (.tmp 23), (some 24), none⟩, 48⟩,
  ⟨⟨.load (some 2) (.tmp 24), (some 25), none⟩, 112⟩,
  ⟨⟨.call (.func 54) [(.tmp 21), (.tmp 25)], (some 26), none⟩, 255⟩,
  ⟨⟨.move (.tmp 26), (some 6), none⟩, 511⟩]
def o41_7 : List AOper := [⟨.move (.tmp 6), (some 27), none⟩,
  ⟨.un .not (.tmp 27), (some 28), none⟩]
def o41_8 : List AOper := [⟨.move (.const (.bool false)), (some 4), none⟩]
def o41_9 : List AOper := [⟨.move (.tmp 5), (some 16), none⟩,
  ⟨.bin .add (.tmp 16) (.const (.int .i64 1)), (some 17), none⟩,
  ⟨.move (.tmp 17), (some 5), none⟩]
def b41_4 : ACode := (.seq (.seq (.ops o41_5) (.cond (.tmp 15) .skip (.exit 0))) (.seq (.block 1 (.seq (.draw d41_6) (.seq (.ops o41_7) (.cond (.tmp 28) (.seq (.ops o41_8) .ret) .skip)))) (.ops o41_9)))
def o41_10 : List AOper := [⟨.move (.const (.bool true)), (some 4), none⟩]
def ir41 : AFn := ⟨29, [.tmp 4], (.seq (.ops o41_0) (.seq (.seq (.ops o41_1) (.cond (.tmp 11) (.seq (.ops o41_2) .ret) .skip)) (.seq (.seq (.ops o41_3) (.block 0 (.loop b41_4))) (.seq (.ops o41_10) .ret))))⟩
theorem ir41_eq : fnsOf Try.prog 41 = some ir41 := by kernel_rfl

/-! F42 lookout/lookoutlaw01.Of -/
def o42_0 : List AOper := [⟨.move (.const (.slice none 0 0)), (some 2), none⟩]
def o42_1 : List AOper := [⟨.move (.const (.slice none 0 0)), (some 3), none⟩]
def o42_2 : List AOper := [⟨.move (.const (.int .i64 0)), (some 4), none⟩]
def o42_4 : List AOper := [⟨.move (.tmp 4), (some 5), none⟩,
  ⟨.move (.tmp 0), (some 6), none⟩,
  ⟨.bu .len [(.tmp 6)], (some 7), none⟩,
  ⟨.bin .lss (.tmp 5) (.tmp 7), (some 8), none⟩]
def d42_5 : List DOper := [⟨⟨.move (.tmp 3), (some 11), none⟩, 0⟩,
  ⟨⟨.move (.tmp 0), (some 12), none⟩, 0⟩,
  ⟨⟨.move (.tmp 4), (some 13), none⟩, 0⟩,
  ⟨⟨.addrSl 1 (.tmp 12) (.tmp 13), (some 14), none⟩, 6⟩,
  ⟨⟨.load none (.tmp 14), (some 15), none⟩, 14⟩,
  ⟨⟨.bu .real [(.tmp 15)], (some 16), none⟩, 30⟩,
  ⟨⟨.move (.tmp 0), (some 17), none⟩, 0⟩,
  ⟨⟨.move (.tmp 4), (some 18), none⟩, 0⟩,
  ⟨⟨.addrSl 1 (.tmp 17) (.tmp 18), (some 19), none⟩, 192⟩,
  ⟨⟨.load none (.tmp 19), (some 20), none⟩, 448⟩,
  ⟨⟨.bu .imag [(.tmp 20)], (some 21), none⟩, 960⟩,
  ⟨⟨.build [(.float .f64 0), (.float .f64 0)] [(0, 1, (.tmp 16)), (1, 1, (.tmp 21))], (some 22), none⟩, 2046⟩,
  ⟨⟨.buildSlice 89 2 [(.float .f64 0), (.float .f64 0)] 1 [(0, (.tmp 22))], (some 23), none⟩, 4094⟩,
  ⟨⟨.append 89 16 2 [(.float .f64 0), (.float .f64 0)] (.tmp 11) (.tmp 23), (some 24), none⟩, 8191⟩,
  ⟨⟨.move (.tmp 24), (some 3), none⟩, 16383⟩]
def o42_6 : List AOper := [⟨.move (.tmp 4), (some 9), none⟩,
  ⟨.bin .add (.tmp 9) (.const (.int .i64 1)), (some 10), none⟩,
  ⟨.move (.tmp 10), (some 4), none⟩]
def b42_3 : ACode := (.seq (.seq (.ops o42_4) (.cond (.tmp 8) .skip (.exit 0))) (.seq (.block 1 (.draw d42_5)) (.ops o42_6)))
def o42_7 : List AOper := [⟨.move (.tmp 3), (some 25), none⟩,
  ⟨.move (.tmp 25), (some 2), none⟩]
def ir42 : AFn := ⟨26, [.tmp 2], (.seq (.ops o42_0) (.seq (.ops o42_1) (.seq (.seq (.ops o42_2) (.block 0 (.loop b42_3))) (.seq (.ops o42_7) .ret))))⟩
theorem ir42_eq : fnsOf Try.prog 42 = some ir42 := by kernel_rfl

/-! F43 lookout/lookoutref01.SameFloat -/
def o43_0 : List AOper := [⟨.move (.const (.bool false)), (some 4), none⟩]
def o43_1 : List AOper := [⟨.move (.tmp 0), (some 5), none⟩,
  ⟨.move (.tmp 0), (some 6), none⟩,
  ⟨.bin .neq (.tmp 5) (.tmp 6), (some 7), none⟩,
  ⟨.move (.tmp 7), (some 8), none⟩,
  ⟨.move (.tmp 1), (some 9), (some (8, false))⟩,
  ⟨.move (.tmp 1), (some 10), (some (8, false))⟩,
  ⟨.bin .neq (.tmp 9) (.tmp 10), (some 11), (some (8, false))⟩,
  ⟨.pick (.tmp 8) (.const (.bool true)) (.tmp 11), (some 12), none⟩]
def o43_2 : List AOper := [⟨.move (.tmp 0), (some 13), none⟩,
  ⟨.move (.tmp 0), (some 14), none⟩,
  ⟨.bin .neq (.tmp 13) (.tmp 14), (some 15), none⟩,
  ⟨.move (.tmp 15), (some 16), none⟩,
  ⟨.move (.tmp 1), (some 17), (some (16, true))⟩,
  ⟨.move (.tmp 1), (some 18), (some (16, true))⟩,
  ⟨.bin .neq (.tmp 17) (.tmp 18), (some 19), (some (16, true))⟩,
  ⟨.pick (.tmp 16) (.tmp 19) (.const (.bool false)), (some 20), none⟩,
  ⟨.move (.tmp 20), (some 4), none⟩]
def o43_3 : List AOper := [⟨.move (.tmp 0), (some 21), none⟩,
  ⟨.ext 0 36 [(.tmp 21)], (some 22), none⟩,
  ⟨.move (.tmp 1), (some 23), none⟩,
  ⟨.ext 0 36 [(.tmp 23)], (some 24), none⟩,
  ⟨.bin .eql (.tmp 22) (.tmp 24), (some 25), none⟩,
  ⟨.move (.tmp 25), (some 4), none⟩]
def ir43 : AFn := ⟨26, [.tmp 4], (.seq (.ops o43_0) (.seq (.seq (.ops o43_1) (.cond (.tmp 12) (.seq (.ops o43_2) .ret) .skip)) (.seq (.ops o43_3) .ret)))⟩
theorem ir43_eq : fnsOf Try.prog 43 = some ir43 := by kernel_rfl

/-! F44 lookout/lookoutref27.sameInts -/
def o44_0 : List AOper := [⟨.move (.const (.bool false)), (some 4), none⟩]
def o44_1 : List AOper := [⟨.move (.tmp 0), (some 7), none⟩,
  ⟨.bu .len [(.tmp 7)], (some 8), none⟩,
  ⟨.move (.tmp 1), (some 9), none⟩,
  ⟨.bu .len [(.tmp 9)], (some 10), none⟩,
  ⟨.bin .neq (.tmp 8) (.tmp 10), (some 11), none⟩]
def o44_2 : List AOper := [⟨.move (.const (.bool false)), (some 4), none⟩]
def o44_3 : List AOper := [⟨.move (.const (.int .i64 0)), (some 5), none⟩]
def o44_5 : List AOper := [⟨.move (.tmp 5), (some 12), none⟩,
  ⟨.move (.tmp 0), (some 13), none⟩,
  ⟨.bu .len [(.tmp 13)], (some 14), none⟩,
  ⟨.bin .lss (.tmp 12) (.tmp 14), (some 15), none⟩]
def d44_6 : List DOper := [⟨⟨.move (.tmp 0), (some 18), none⟩, 0⟩,
  ⟨⟨.move (.tmp 5), (some 19), none⟩, 0⟩,
  ⟨⟨.addrSl 1 (.tmp 18) (.tmp 19), (some 20), none⟩, 3⟩,
  ⟨⟨.load none (.tmp 20), (some 21), none⟩, 7⟩,
  ⟨⟨.bu .len [(.tmp 21)], (some 22), none⟩, 15⟩,
  ⟨⟨.move (.tmp 1), (some 23), none⟩, 0⟩,
  ⟨⟨.move (.tmp 5), (some 24), none⟩, 0⟩,
  ⟨⟨.addrSl 1 (.tmp 23) (.tmp 24), (some 25), none⟩, 96⟩,
  ⟨⟨.load none (.tmp 25), (some 26), none⟩, 224⟩,
  ⟨⟨.bu .len [(.tmp 26)], (some 27), none⟩, 480⟩,
  ⟨⟨.bin .neq (.tmp 22) (.tmp 27), (some 28), none⟩, 1023⟩]
def o44_7 : List AOper := [⟨.move (.const (.bool false)), (some 4), none⟩]
def o44_8 : List AOper := [⟨.move (.const (.int .i64 0)), (some 6), none⟩]
def o44_10 : List AOper := [⟨.move (.tmp 6), (some 29), none⟩,
  ⟨.move (.tmp 0), (some 30), none⟩,
  ⟨.move (.tmp 5), (some 31), none⟩,
  ⟨.addrSl 1 (.tmp 30) (.tmp 31), (some 32), none⟩,
  ⟨.load none (.tmp 32), (some 33), none⟩,
  ⟨.bu .len [(.tmp 33)], (some 34), none⟩,
  ⟨.bin .lss (.tmp 29) (.tmp 34), (some 35), none⟩]
def d44_11 : List DOper := [⟨⟨.move (.tmp 0), (some 38), none⟩, 0⟩,
  ⟨⟨.move (.tmp 5), (some 39), none⟩, 0⟩,
  ⟨⟨.addrSl 1 (.tmp 38) (.tmp 39), (some 40), none⟩, 3⟩,
  ⟨⟨.load none (.tmp 40), (some 41), none⟩, 7⟩,
  ⟨⟨.move (.tmp 6), (some 42), none⟩, 0⟩,
  ⟨⟨.addrSl 1 (.tmp 41) (.tmp 42), (some 43), none⟩, 31⟩,
  ⟨⟨.load none (.tmp 43), (some 44), none⟩, 63⟩,
  ⟨⟨.move (.tmp 1), (some 45), none⟩, 0⟩,
  ⟨⟨.move (.tmp 5), (some 46), none⟩, 0⟩,
  ⟨⟨.addrSl 1 (.tmp 45) (.tmp 46), (some 47), none⟩, 384⟩,
  ⟨⟨.load none (.tmp 47), (some 48), none⟩, 896⟩,
  ⟨⟨.move (.tmp 6), (some 49), none⟩, 0⟩,
  ⟨⟨.addrSl 1 (.tmp 48) (.tmp 49), (some 50), none⟩, 3968⟩,
  ⟨⟨.load none (.tmp 50), (some 51), none⟩, 8064⟩,
  ⟨⟨.bin .neq (.tmp 44) (.tmp 51), (some 52), none⟩, 16383⟩]
def o44_12 : List AOper := [⟨.move (.const (.bool false)), (some 4), none⟩]
def o44_13 : List AOper := [⟨.move (.tmp 6), (some 36), none⟩,
  ⟨.bin .add (.tmp 36) (.const (.int .i64 1)), (some 37), none⟩,
  ⟨.move (.tmp 37), (some 6), none⟩]
def b44_9 : ACode := (.seq (.seq (.ops o44_10) (.cond (.tmp 35) .skip (.exit 2))) (.seq (.block 3 (.seq (.draw d44_11) (.cond (.tmp 52) (.seq (.ops o44_12) .ret) .skip))) (.ops o44_13)))
def o44_14 : List AOper := [⟨.move (.tmp 5), (some 16), none⟩,
  ⟨.bin .add (.tmp 16) (.const (.int .i64 1)), (some 17), none⟩,
  ⟨.move (.tmp 17), (some 5), none⟩]
def b44_4 : ACode := (.seq (.seq (.ops o44_5) (.cond (.tmp 15) .skip (.exit 0))) (.seq (.block 1 (.seq (.seq (.draw d44_6) (.cond (.tmp 28) (.seq (.ops o44_7) .ret) .skip)) (.seq (.ops o44_8) (.block 2 (.loop b44_9))))) (.ops o44_14)))
def o44_15 : List AOper := [⟨.move (.const (.bool true)), (some 4), none⟩]
def ir44 : AFn := ⟨53, [.tmp 4], (.seq (.ops o44_0) (.seq (.seq (.ops o44_1) (.cond (.tmp 11) (.seq (.ops o44_2) .ret) .skip)) (.seq (.seq (.ops o44_3) (.block 0 (.loop b44_4))) (.seq (.ops o44_15) .ret))))⟩
theorem ir44_eq : fnsOf Try.prog 44 = some ir44 := by kernel_rfl

/-! F45 lookout/tape.finite -/
def o45_0 : List AOper := [⟨.move (.const (.bool false)), (some 2), none⟩]
def o45_1 : List AOper := [⟨.move (.tmp 0), (some 3), none⟩,
  ⟨.call (.func 55) [(.tmp 3)], (some 4), none⟩,
  ⟨.un .not (.tmp 4), (some 5), none⟩,
  ⟨.move (.tmp 5), (some 6), none⟩,
  ⟨.move (.tmp 0), (some 7), (some (6, true))⟩,
  ⟨.call (.func 56) [(.tmp 7), (.const (.int .i64 0))], (some 8), (some (6, true))⟩,
  ⟨.un .not (.tmp 8), (some 9), (some (6, true))⟩,
  ⟨.pick (.tmp 6) (.tmp 9) (.const (.bool false)), (some 10), none⟩,
  ⟨.move (.tmp 10), (some 2), none⟩]
def ir45 : AFn := ⟨11, [.tmp 2], (.seq (.ops o45_0) (.seq (.ops o45_1) .ret))⟩
theorem ir45_eq : fnsOf Try.prog 45 = some ir45 := by kernel_rfl

/-! F46 lookout/tape.large -/
def o46_0 : List AOper := [⟨.move (.const (.bool false)), (some 4), none⟩]
def o46_1 : List AOper := [⟨.move (.tmp 0), (some 5), none⟩,
  ⟨.bin .gtr (.tmp 5) (.const (.int .i64 256)), (some 6), none⟩,
  ⟨.move (.tmp 6), (some 7), none⟩,
  ⟨.move (.tmp 1), (some 8), (some (7, false))⟩,
  ⟨.bin .gtr (.tmp 8) (.const (.int .i64 16384)), (some 9), (some (7, false))⟩,
  ⟨.pick (.tmp 7) (.const (.bool true)) (.tmp 9), (some 10), none⟩,
  ⟨.move (.tmp 10), (some 11), none⟩,
  ⟨.move (.tmp 0), (some 12), (some (11, false))⟩,
  ⟨.move (.tmp 1), (some 13), (some (11, false))⟩,
  ⟨.bin .mul (.tmp 12) (.tmp 13), (some 14), (some (11, false))⟩,
  ⟨.bin .gtr (.tmp 14) (.const (.int .i64 262144)), (some 15), (some (11, false))⟩,
  ⟨.pick (.tmp 11) (.const (.bool true)) (.tmp 15), (some 16), none⟩,
  ⟨.move (.tmp 16), (some 4), none⟩]
def ir46 : AFn := ⟨17, [.tmp 4], (.seq (.ops o46_0) (.seq (.ops o46_1) .ret))⟩
theorem ir46_eq : fnsOf Try.prog 46 = some ir46 := by kernel_rfl

/-! F47 lookout/tape.blank -/
def o47_0 : List AOper := [⟨.move (.const (.slice none 0 0)), (some 4), none⟩]
def d47_1 : List DOper := [⟨⟨.move (.tmp 0), (some 8), none⟩, 0⟩,
  ⟨⟨.move (.tmp 1), (some 9), none⟩, 0⟩,
  ⟨⟨.bin .mul (.tmp 8) (.tmp 9), (some 10), none⟩, 3⟩,
  ⟨⟨.makeSlice 68 2 1 [(.int .i16 0)] (.tmp 10) (.tmp 10), (some 11), none⟩, 7⟩,
  ⟨⟨.move (.tmp 0), (some 12), none⟩, 0⟩,
  ⟨⟨.makeSlice 67 24 1 [(.slice none 0 0)] (.tmp 12) (.tmp 12), (some 13), none⟩, 16⟩,
  ⟨⟨.move (.tmp 11), (some 5), none⟩, 15⟩,
  ⟨⟨.move (.tmp 13), (some 6), none⟩, 127⟩]
def o47_2 : List AOper := [⟨.move (.tmp 6), (some 14), none⟩,
  ⟨.bu .len [(.tmp 14)], (some 15), none⟩,
  ⟨.move (.const (.int .i64 0)), (some 16), none⟩]
def o47_4 : List AOper := [⟨.bin .lss (.tmp 16) (.tmp 15), (some 17), none⟩]
def o47_5 : List AOper := [⟨.move (.tmp 16), (some 18), none⟩,
  ⟨.move (.tmp 18), (some 7), none⟩]
def o47_6 : List AOper := [⟨.move (.tmp 6), (some 19), none⟩,
  ⟨.move (.tmp 7), (some 20), none⟩,
  ⟨.move (.tmp 5), (some 21), none⟩,
  ⟨.move (.tmp 7), (some 22), none⟩,
  ⟨.move (.tmp 1), (some 23), none⟩,
  ⟨.bin .mul (.tmp 22) (.tmp 23), (some 24), none⟩,
  ⟨.move (.tmp 7), (some 25), none⟩,
  ⟨.move (.tmp 1), (some 26), none⟩,
  ⟨.bin .mul (.tmp 25) (.tmp 26), (some 27), none⟩,
  ⟨.move (.tmp 1), (some 28), none⟩,
  ⟨.bin .add (.tmp 27) (.tmp 28), (some 29), none⟩,
  ⟨.move (.tmp 7), (some 30), none⟩,
  ⟨.move (.tmp 1), (some 31), none⟩,
  ⟨.bin .mul (.tmp 30) (.tmp 31), (some 32), none⟩,
  ⟨.move (.tmp 1), (some 33), none⟩,
  ⟨.bin .add (.tmp 32) (.tmp 33), (some 34), none⟩,
  ⟨.slSl 1 (.tmp 21) (some (.tmp 24)) (some (.tmp 29)) (some (.tmp 34)), (some 35), none⟩,
  ⟨.addrSl 1 (.tmp 19) (.tmp 20), (some 36), none⟩,
  ⟨.store 1 (.tmp 36) (.tmp 35), none, none⟩]
def o47_7 : List AOper := [⟨.bin .add (.tmp 16) (.const (.int .i64 1)), (some 37), none⟩,
  ⟨.move (.tmp 37), (some 16), none⟩]
def b47_3 : ACode := (.seq (.ops o47_4) (.seq (.cond (.tmp 17) .skip (.exit 0)) (.seq (.block 1 (.seq (.ops o47_5) (.ops o47_6))) (.ops o47_7))))
def o47_8 : List AOper := [⟨.move (.tmp 6), (some 38), none⟩,
  ⟨.move (.tmp 38), (some 4), none⟩]
def ir47 : AFn := ⟨39, [.tmp 4], (.seq (.ops o47_0) (.seq (.draw d47_1) (.seq (.seq (.ops o47_2) (.block 0 (.loop b47_3))) (.seq (.ops o47_8) .ret))))⟩
theorem ir47_eq : fnsOf Try.prog 47 = some ir47 := by kernel_rfl

/-! F48 lookout/tape.small -/
def o48_0 : List AOper := [⟨.move (.const (.int .i16 0)), (some 2), none⟩]
def o48_1 : List AOper := [⟨.move (.tmp 0), (some 7), none⟩,
  ⟨.call (.func 55) [(.tmp 7)], (some 8), none⟩,
  ⟨.move (.tmp 8), (some 6), none⟩]
def o48_2 : List AOper := [⟨.move (.const (.int .i16 0)), (some 2), none⟩]
def o48_3 : List AOper := [⟨.move (.tmp 0), (some 10), none⟩,
  ⟨.bin .geq (.tmp 10) (.const (.float .f64 4674736138332667904)), (some 11), none⟩,
  ⟨.move (.tmp 11), (some 9), none⟩]
def o48_4 : List AOper := [⟨.move (.const (.int .i16 32767)), (some 2), none⟩]
def o48_5 : List AOper := [⟨.move (.tmp 0), (some 13), none⟩,
  ⟨.bin .leq (.tmp 13) (.const (.float .f64 13898108450065350656)), (some 14), none⟩,
  ⟨.move (.tmp 14), (some 12), none⟩]
def o48_6 : List AOper := [⟨.move (.const (.int .i16 (-32768))), (some 2), none⟩]
def o48_7 : List AOper := [⟨.move (.tmp 0), (some 15), none⟩,
  ⟨.call (.func 57) [(.tmp 15)], (some 16), none⟩,
  ⟨.move (.tmp 16), (some 3), none⟩]
def o48_8 : List AOper := [⟨.move (.tmp 3), (some 17), none⟩,
  ⟨.conv (.toInt .i64) (.tmp 17), (some 18), none⟩,
  ⟨.move (.tmp 0), (some 19), none⟩,
  ⟨.move (.tmp 3), (some 20), none⟩,
  ⟨.bin .sub (.tmp 19) (.tmp 20), (some 21), none⟩,
  ⟨.move (.tmp 18), (some 4), none⟩,
  ⟨.move (.tmp 21), (some 5), none⟩]
def o48_9 : List AOper := [⟨.move (.tmp 5), (some 22), none⟩,
  ⟨.bin .gtr (.tmp 22) (.const (.float .f64 4602678819172646912)), (some 23), none⟩,
  ⟨.move (.tmp 23), (some 24), none⟩,
  ⟨.move (.tmp 5), (some 25), (some (24, false))⟩,
  ⟨.bin .eql (.tmp 25) (.const (.float .f64 4602678819172646912)), (some 26), (some (24, false))⟩,
  ⟨.move (.tmp 26), (some 27), (some (24, false))⟩,
  ⟨.move (.tmp 4), (some 28), (some (27, true))⟩,
  ⟨.bin .and (.tmp 28) (.const (.int .i64 1)), (some 29), (some (27, true))⟩,
  ⟨.bin .eql (.tmp 29) (.const (.int .i64 1)), (some 30), (some (27, true))⟩,
  ⟨.pick (.tmp 27) (.tmp 30) (.const (.bool false)), (some 31), (some (24, false))⟩,
  ⟨.pick (.tmp 24) (.const (.bool true)) (.tmp 31), (some 32), none⟩]
def o48_10 : List AOper := [⟨.move (.tmp 4), (some 33), none⟩,
  ⟨.bin .add (.tmp 33) (.const (.int .i64 1)), (some 34), none⟩,
  ⟨.move (.tmp 34), (some 4), none⟩]
def o48_11 : List AOper := [⟨.move (.tmp 4), (some 35), none⟩,
  ⟨.conv (.toInt .i16) (.tmp 35), (some 36), none⟩,
  ⟨.move (.tmp 36), (some 2), none⟩]
def ir48 : AFn := ⟨37, [.tmp 2], (.seq (.ops o48_0) (.seq (.block 0 (.seq (.ops o48_1) (.cond (.tmp 6) (.seq (.ops o48_2) .ret) (.seq (.ops o48_3) (.cond (.tmp 9) (.seq (.ops o48_4) .ret) (.seq (.ops o48_5) (.cond (.tmp 12) (.seq (.ops o48_6) .ret) .skip))))))) (.seq (.ops o48_7) (.seq (.ops o48_8) (.seq (.seq (.ops o48_9) (.cond (.tmp 32) (.ops o48_10) .skip)) (.seq (.ops o48_11) .ret))))))⟩
theorem ir48_eq : fnsOf Try.prog 48 = some ir48 := by kernel_rfl

/-! F49 lookout/tape.get -/
def o49_0 : List AOper := [⟨.move (.const (.int .u64 0)), (some 2), none⟩]
def o49_1 : List AOper := [⟨.move (.const (.int .u64 0)), (some 3), none⟩]
def o49_2 : List AOper := [⟨.move (.tmp 0), (some 6), none⟩,
  ⟨.bu .len [(.tmp 6)], (some 7), none⟩,
  ⟨.move (.const (.int .i64 0)), (some 8), none⟩]
def o49_4 : List AOper := [⟨.bin .lss (.tmp 8) (.tmp 7), (some 9), none⟩]
def o49_5 : List AOper := [⟨.addrSl 1 (.tmp 6) (.tmp 8), (some 10), none⟩,
  ⟨.load none (.tmp 10), (some 11), none⟩,
  ⟨.move (.tmp 11), (some 5), none⟩]
def o49_6 : List AOper := [⟨.move (.tmp 3), (some 12), none⟩,
  ⟨.bin .shl (.tmp 12) (.const (.int .u64 8)), (some 13), none⟩,
  ⟨.move (.tmp 13), (some 3), none⟩]
def o49_7 : List AOper := [⟨.move (.tmp 3), (some 14), none⟩,
  ⟨.move (.tmp 5), (some 15), none⟩,
  ⟨.conv (.toInt .u64) (.tmp 15), (some 16), none⟩,
  ⟨.bin .or (.tmp 14) (.tmp 16), (some 17), none⟩,
  ⟨.move (.tmp 17), (some 3), none⟩]
def o49_8 : List AOper := [⟨.bin .add (.tmp 8) (.const (.int .i64 1)), (some 18), none⟩,
  ⟨.move (.tmp 18), (some 8), none⟩]
def b49_3 : ACode := (.seq (.ops o49_4) (.seq (.cond (.tmp 9) .skip (.exit 0)) (.seq (.block 1 (.seq (.ops o49_5) (.seq (.ops o49_6) (.ops o49_7)))) (.ops o49_8))))
def o49_9 : List AOper := [⟨.move (.tmp 3), (some 19), none⟩,
  ⟨.move (.tmp 19), (some 2), none⟩]
def ir49 : AFn := ⟨20, [.tmp 2], (.seq (.ops o49_0) (.seq (.ops o49_1) (.seq (.seq (.ops o49_2) (.block 0 (.loop b49_3))) (.seq (.ops o49_9) .ret))))⟩
theorem ir49_eq : fnsOf Try.prog 49 = some ir49 := by kernel_rfl

/-! F51 lookout/lookoutref01.IsFinite -/
def o51_0 : List AOper := [⟨.move (.const (.bool false)), (some 2), none⟩]
def o51_1 : List AOper := [⟨.move (.tmp 0), (some 3), none⟩,
  ⟨.move (.tmp 0), (some 4), none⟩,
  ⟨.bin .eql (.tmp 3) (.tmp 4), (some 5), none⟩,
  ⟨.move (.tmp 5), (some 6), none⟩,
  ⟨.move (.tmp 0), (some 7), (some (6, true))⟩,
  ⟨.bin .leq (.tmp 7) (.const (.float .f64 9218868437227405311)), (some 8), (some (6, true))⟩,
  ⟨.pick (.tmp 6) (.tmp 8) (.const (.bool false)), (some 9), none⟩,
  ⟨.move (.tmp 9), (some 10), none⟩,
  ⟨.move (.tmp 0), (some 11), (some (10, true))⟩,
  ⟨.bin .geq (.tmp 11) (.const (.float .f64 18442240474082181119)), (some 12), (some (10, true))⟩,
  ⟨.pick (.tmp 10) (.tmp 12) (.const (.bool false)), (some 13), none⟩,
  ⟨.move (.tmp 13), (some 2), none⟩]
def ir51 : AFn := ⟨14, [.tmp 2], (.seq (.ops o51_0) (.seq (.ops o51_1) .ret))⟩
theorem ir51_eq : fnsOf Try.prog 51 = some ir51 := by kernel_rfl

/-! F52 lookout/lookoutref27.Unit -/
def o52_0 : List AOper := [⟨.move (.const (.bool false)), (some 2), none⟩]
def o52_1 : List AOper := [⟨.move (.tmp 0), (some 3), none⟩,
  ⟨.call (.func 51) [(.tmp 3)], (some 4), none⟩,
  ⟨.move (.tmp 4), (some 5), none⟩,
  ⟨.move (.tmp 0), (some 6), (some (5, true))⟩,
  ⟨.bin .gtr (.tmp 6) (.const (.float .f64 0)), (some 7), (some (5, true))⟩,
  ⟨.pick (.tmp 5) (.tmp 7) (.const (.bool false)), (some 8), none⟩,
  ⟨.move (.tmp 8), (some 2), none⟩]
def ir52 : AFn := ⟨9, [.tmp 2], (.seq (.ops o52_0) (.seq (.ops o52_1) .ret))⟩
theorem ir52_eq : fnsOf Try.prog 52 = some ir52 := by kernel_rfl

/-! F53 lookout/lookoutref09.Large -/
def o53_0 : List AOper := [⟨.move (.const (.bool false)), (some 4), none⟩]
def o53_1 : List AOper := [⟨.move (.tmp 0), (some 5), none⟩,
  ⟨.bin .gtr (.tmp 5) (.const (.int .i64 256)), (some 6), none⟩,
  ⟨.move (.tmp 6), (some 7), none⟩,
  ⟨.move (.tmp 1), (some 8), (some (7, false))⟩,
  ⟨.bin .gtr (.tmp 8) (.const (.int .i64 16384)), (some 9), (some (7, false))⟩,
  ⟨.pick (.tmp 7) (.const (.bool true)) (.tmp 9), (some 10), none⟩,
  ⟨.move (.tmp 10), (some 11), none⟩,
  ⟨.move (.tmp 0), (some 12), (some (11, false))⟩,
  ⟨.move (.tmp 1), (some 13), (some (11, false))⟩,
  ⟨.bin .mul (.tmp 12) (.tmp 13), (some 14), (some (11, false))⟩,
  ⟨.bin .gtr (.tmp 14) (.const (.int .i64 262144)), (some 15), (some (11, false))⟩,
  ⟨.pick (.tmp 11) (.const (.bool true)) (.tmp 15), (some 16), none⟩,
  ⟨.move (.tmp 16), (some 4), none⟩]
def ir53 : AFn := ⟨17, [.tmp 4], (.seq (.ops o53_0) (.seq (.ops o53_1) .ret))⟩
theorem ir53_eq : fnsOf Try.prog 53 = some ir53 := by kernel_rfl

/-! F54 lookout/lookoutref01.Same -/
def o54_0 : List AOper := [⟨.box 89 (.tmp 0), (some 2), none⟩,
  ⟨.box 89 (.tmp 1), (some 3), none⟩,
  ⟨.move (.const (.bool false)), (some 4), none⟩]
def o54_1 : List AOper := [⟨.fieldAddr 0 (.tmp 2), (some 5), none⟩,
  ⟨.load none (.tmp 5), (some 6), none⟩,
  ⟨.fieldAddr 0 (.tmp 3), (some 7), none⟩,
  ⟨.load none (.tmp 7), (some 8), none⟩,
  ⟨.call (.func 43) [(.tmp 6), (.tmp 8)], (some 9), none⟩,
  ⟨.move (.tmp 9), (some 10), none⟩,
  ⟨.fieldAddr 1 (.tmp 2), (some 11), (some (10, true))⟩,
  ⟨.load none (.tmp 11), (some 12), (some (10, true))⟩,
  ⟨.fieldAddr 1 (.tmp 3), (some 13), (some (10, true))⟩,
  ⟨.load none (.tmp 13), (some 14), (some (10, true))⟩,
  ⟨.call (.func 43) [(.tmp 12), (.tmp 14)], (some 15), (some (10, true))⟩,
  ⟨.pick (.tmp 10) (.tmp 15) (.const (.bool false)), (some 16), none⟩,
  ⟨.move (.tmp 16), (some 4), none⟩]
def ir54 : AFn := ⟨17, [.tmp 4], (.seq (.ops o54_0) (.seq (.ops o54_1) .ret))⟩
theorem ir54_eq : fnsOf Try.prog 54 = some ir54 := by kernel_rfl

/-! F55 math.IsNaN -/
def o55_0 : List AOper := [⟨.move (.const (.bool false)), (some 2), none⟩]
def o55_1 : List AOper := [⟨.move (.tmp 0), (some 3), none⟩,
  ⟨.move (.tmp 0), (some 4), none⟩,
  ⟨.bin .neq (.tmp 3) (.tmp 4), (some 5), none⟩,
  ⟨.move (.tmp 5), (some 2), none⟩]
def ir55 : AFn := ⟨6, [.tmp 2], (.seq (.ops o55_0) (.seq (.ops o55_1) .ret))⟩
theorem ir55_eq : fnsOf Try.prog 55 = some ir55 := by kernel_rfl

/-! F56 math.IsInf -/
def o56_0 : List AOper := [⟨.move (.const (.bool false)), (some 4), none⟩]
def o56_1 : List AOper := [⟨.move (.tmp 1), (some 5), none⟩,
  ⟨.bin .eql (.tmp 5) (.const (.int .i64 0)), (some 6), none⟩]
def o56_2 : List AOper := [⟨.move (.tmp 0), (some 7), none⟩,
  ⟨.ext 5 58 [(.tmp 7)], (some 8), none⟩,
  ⟨.move (.tmp 8), (some 0), none⟩]
def o56_3 : List AOper := [⟨.move (.tmp 1), (some 9), none⟩,
  ⟨.bin .lss (.tmp 9) (.const (.int .i64 0)), (some 10), none⟩]
def o56_4 : List AOper := [⟨.move (.tmp 0), (some 11), none⟩,
  ⟨.un .neg (.tmp 11), (some 12), none⟩,
  ⟨.move (.tmp 12), (some 0), none⟩]
def o56_5 : List AOper := [⟨.move (.tmp 0), (some 13), none⟩,
  ⟨.bin .gtr (.tmp 13) (.const (.float .f64 9218868437227405311)), (some 14), none⟩,
  ⟨.move (.tmp 14), (some 4), none⟩]
def ir56 : AFn := ⟨15, [.tmp 4], (.seq (.ops o56_0) (.seq (.seq (.ops o56_1) (.cond (.tmp 6) (.ops o56_2) (.seq (.ops o56_3) (.cond (.tmp 10) (.ops o56_4) .skip)))) (.seq (.ops o56_5) .ret)))⟩
theorem ir56_eq : fnsOf Try.prog 56 = some ir56 := by kernel_rfl

/-! F57 math.Floor -/
def o57_0 : List AOper := [⟨.move (.const (.float .f64 0)), (some 2), none⟩]
def o57_1 : List AOper := [⟨.move (.tmp 0), (some 3), none⟩,
  ⟨.ext 2 59 [(.tmp 3)], (some 4), none⟩,
  ⟨.move (.tmp 4), (some 2), none⟩]
def o57_2 : List AOper := [⟨.move (.tmp 0), (some 5), none⟩,
  ⟨.call (.func 60) [(.tmp 5)], (some 6), none⟩,
  ⟨.move (.tmp 6), (some 2), none⟩]
def ir57 : AFn := ⟨7, [.tmp 2], (.seq (.ops o57_0) (.seq (.cond (.const (.bool true)) (.seq (.ops o57_1) .ret) .skip) (.seq (.ops o57_2) .ret)))⟩
theorem ir57_eq : fnsOf Try.prog 57 = some ir57 := by kernel_rfl

/-! F58 math.Abs -/
def o58_0 : List AOper := [⟨.move (.const (.float .f64 0)), (some 2), none⟩]
def o58_1 : List AOper := [⟨.move (.tmp 0), (some 3), none⟩,
  ⟨.ext 0 36 [(.tmp 3)], (some 4), none⟩,
  ⟨.bin .andNot (.tmp 4) (.const (.int .u64 9223372036854775808)), (some 5), none⟩,
  ⟨.ext 1 50 [(.tmp 5)], (some 6), none⟩,
  ⟨.move (.tmp 6), (some 2), none⟩]
def ir58 : AFn := ⟨7, [.tmp 2], (.seq (.ops o58_0) (.seq (.ops o58_1) .ret))⟩
theorem ir58_eq : fnsOf Try.prog 58 = some ir58 := by kernel_rfl

end Go.Proofs.Ytkfcejhebepdkaa
