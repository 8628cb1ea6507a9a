/- The small machine's text of functions of the seat. -/
import Derived.Test.YtfjdihfflghfpaaRows
import Derived.Test.YtfjdihfflghfpaaVam25
import Derived.KernelRfl
namespace Go.Proofs.Ytfjdihfflghfpaa
open Go Go.Vam

/-! F6 lookout/lookoutlaw14.CfarMaps -/
def o6_0 : List AOper := [⟨.box 26 (.tmp 1), (some 3), none⟩,
  ⟨.move (.const (.bool false)), (some 4), none⟩]
def o6_1 : List AOper := [⟨.move (.const (.int .i64 0)), (some 5), none⟩]
def o6_2 : List AOper := [⟨.move (.tmp 0), (some 15), none⟩,
  ⟨.bu .len [(.tmp 15)], (some 16), none⟩,
  ⟨.move (.const (.int .i64 0)), (some 17), none⟩]
def o6_4 : List AOper := [⟨.bin .lss (.tmp 17) (.tmp 16), (some 18), none⟩]
def o6_5 : List AOper := [⟨.move (.tmp 17), (some 19), none⟩,
  ⟨.move (.tmp 19), (some 6), none⟩]
def d6_6 : List DOper := [⟨⟨.move (.tmp 0), (some 20), none⟩, 0⟩,
  ⟨⟨.move (.tmp 6), (some 21), none⟩, 0⟩,
  ⟨⟨.addrSl 1 (.tmp 20) (.tmp 21), (some 22), none⟩, 3⟩,
  ⟨⟨.load none (.tmp 22), (some 23), none⟩, 7⟩,
  ⟨⟨.bu .len [(.tmp 23)], (some 24), none⟩, 15⟩,
  ⟨⟨.load (some 5) (.tmp 3), (some 25), none⟩, 0⟩,
  ⟨⟨.call (.func 9) [(.tmp 24), (.tmp 25)], (some 26), none⟩, 63⟩,
  ⟨⟨.move (.tmp 26), (some 27), none⟩, 127⟩,
  ⟨⟨.move (.tmp 5), (some 28), (some (27, false))⟩, 255⟩,
  ⟨⟨.bin .gtr (.tmp 28) (.const (.int .i64 524288)), (some 29), (some (27, false))⟩, 511⟩,
  ⟨⟨.pick (.tmp 27) (.const (.bool true)) (.tmp 29), (some 30), none⟩, 1023⟩]
def o6_7 : List AOper := [⟨.call (.func 10) [], (some 31), none⟩,
  ⟨.move (.tmp 31), (some 4), none⟩]
def o6_8 : List AOper := [⟨.move (.tmp 5), (some 32), none⟩,
  ⟨.move (.tmp 0), (some 33), none⟩,
  ⟨.move (.tmp 6), (some 34), none⟩,
  ⟨.addrSl 1 (.tmp 33) (.tmp 34), (some 35), none⟩,
  ⟨.load none (.tmp 35), (some 36), none⟩,
  ⟨.bu .len [(.tmp 36)], (some 37), none⟩,
  ⟨.bin .add (.tmp 37) (.const (.int .i64 1)), (some 38), none⟩,
  ⟨.bin .add (.tmp 32) (.tmp 38), (some 39), none⟩,
  ⟨.move (.tmp 39), (some 5), none⟩]
def o6_9 : List AOper := [⟨.bin .add (.tmp 17) (.const (.int .i64 1)), (some 40), none⟩,
  ⟨.move (.tmp 40), (some 17), none⟩]
def b6_3 : ACode := (.seq (.ops o6_4) (.seq (.cond (.tmp 18) .skip (.exit 0)) (.seq (.block 1 (.seq (.ops o6_5) (.seq (.seq (.draw d6_6) (.cond (.tmp 30) (.seq (.ops o6_7) .ret) .skip)) (.ops o6_8)))) (.ops o6_9))))
def d6_10 : List DOper := [⟨⟨.move (.tmp 5), (some 41), none⟩, 0⟩,
  ⟨⟨.bin .gtr (.tmp 41) (.const (.int .i64 0)), (some 42), none⟩, 1⟩,
  ⟨⟨.move (.tmp 42), (some 43), none⟩, 3⟩,
  ⟨⟨.fieldAddr 2 (.tmp 3), (some 44), (some (43, true))⟩, 7⟩,
  ⟨⟨.load none (.tmp 44), (some 45), (some (43, true))⟩, 15⟩,
  ⟨⟨.move (.tmp 5), (some 46), (some (43, true))⟩, 7⟩,
  ⟨⟨.bin .quo (.const (.int .i64 8388608)) (.tmp 46), (some 47), (some (43, true))⟩, 39⟩,
  ⟨⟨.bin .gtr (.tmp 45) (.tmp 47), (some 48), (some (43, true))⟩, 127⟩,
  ⟨⟨.pick (.tmp 43) (.tmp 48) (.const (.bool false)), (some 49), none⟩, 255⟩,
  ⟨⟨.move (.tmp 49), (some 50), none⟩, 511⟩,
  ⟨⟨.move (.tmp 5), (some 51), (some (50, true))⟩, 1023⟩,
  ⟨⟨.bin .leq (.tmp 51) (.const (.int .i64 262144)), (some 52), (some (50, true))⟩, 2047⟩,
  ⟨⟨.pick (.tmp 50) (.tmp 52) (.const (.bool false)), (some 53), none⟩, 4095⟩]
def o6_11 : List AOper := [⟨.call (.func 10) [], (some 54), none⟩,
  ⟨.move (.tmp 54), (some 4), none⟩]
def o6_12 : List AOper := [⟨.move (.tmp 0), (some 55), none⟩,
  ⟨.bu .len [(.tmp 55)], (some 56), none⟩,
  ⟨.bin .add (.tmp 56) (.const (.int .i64 1)), (some 57), none⟩,
  ⟨.makeSlice 22 24 1 [(.slice none 0 0)] (.const (.int .i64 0)) (.tmp 57), (some 58), none⟩,
  ⟨.move (.tmp 58), (some 7), none⟩]
def o6_13 : List AOper := [⟨.move (.tmp 0), (some 59), none⟩,
  ⟨.bu .len [(.tmp 59)], (some 60), none⟩,
  ⟨.move (.const (.int .i64 0)), (some 61), none⟩]
def o6_15 : List AOper := [⟨.bin .lss (.tmp 61) (.tmp 60), (some 62), none⟩]
def o6_16 : List AOper := [⟨.move (.tmp 61), (some 63), none⟩,
  ⟨.move (.tmp 63), (some 8), none⟩]
def o6_17 : List AOper := [⟨.move (.tmp 7), (some 64), none⟩,
  ⟨.move (.tmp 0), (some 65), none⟩,
  ⟨.move (.tmp 8), (some 66), none⟩,
  ⟨.addrSl 1 (.tmp 65) (.tmp 66), (some 67), none⟩,
  ⟨.load none (.tmp 67), (some 68), none⟩,
  ⟨.call (.func 11) [(.tmp 68)], (some 69), none⟩,
  ⟨.buildSlice 22 1 [(.slice none 0 0)] 1 [(0, (.tmp 69))], (some 70), none⟩,
  ⟨.append 22 24 1 [(.slice none 0 0)] (.tmp 64) (.tmp 70), (some 71), none⟩,
  ⟨.move (.tmp 71), (some 7), none⟩]
def o6_18 : List AOper := [⟨.bin .add (.tmp 61) (.const (.int .i64 1)), (some 72), none⟩,
  ⟨.move (.tmp 72), (some 61), none⟩]
def b6_14 : ACode := (.seq (.ops o6_15) (.seq (.cond (.tmp 62) .skip (.exit 2)) (.seq (.block 3 (.seq (.ops o6_16) (.ops o6_17))) (.ops o6_18))))
def o6_19 : List AOper := [⟨.move (.tmp 7), (some 74), none⟩,
  ⟨.fieldAddr 0 (.tmp 3), (some 75), none⟩,
  ⟨.load none (.tmp 75), (some 76), none⟩,
  ⟨.fieldAddr 1 (.tmp 3), (some 77), none⟩,
  ⟨.load none (.tmp 77), (some 78), none⟩,
  ⟨.fieldAddr 2 (.tmp 3), (some 79), none⟩,
  ⟨.load none (.tmp 79), (some 80), none⟩,
  ⟨.fieldAddr 3 (.tmp 3), (some 81), none⟩,
  ⟨.load none (.tmp 81), (some 82), none⟩,
  ⟨.fieldAddr 4 (.tmp 3), (some 83), none⟩,
  ⟨.load none (.tmp 83), (some 84), none⟩,
  ⟨.call (.func 26) [(.tmp 74), (.tmp 76), (.tmp 78), (.tmp 80), (.tmp 82), (.tmp 84)], (some 85), none⟩,
  ⟨.move (.tmp 85), (some 73), none⟩,
  ⟨.extract (.tmp 73) 0, (some 86), none⟩,
  ⟨.extract (.tmp 73) 1, (some 87), none⟩,
  ⟨.move (.tmp 86), (some 9), none⟩,
  ⟨.move (.tmp 87), (some 10), none⟩]
def o6_20 : List AOper := [⟨.move (.tmp 0), (some 89), none⟩,
  ⟨.fieldAddr 0 (.tmp 3), (some 90), none⟩,
  ⟨.load none (.tmp 90), (some 91), none⟩,
  ⟨.fieldAddr 1 (.tmp 3), (some 92), none⟩,
  ⟨.load none (.tmp 92), (some 93), none⟩,
  ⟨.fieldAddr 2 (.tmp 3), (some 94), none⟩,
  ⟨.load none (.tmp 94), (some 95), none⟩,
  ⟨.fieldAddr 3 (.tmp 3), (some 96), none⟩,
  ⟨.load none (.tmp 96), (some 97), none⟩,
  ⟨.fieldAddr 4 (.tmp 3), (some 98), none⟩,
  ⟨.load none (.tmp 98), (some 99), none⟩,
  ⟨.call (.func 27) [(.tmp 89), (.tmp 91), (.tmp 93), (.tmp 95), (.tmp 97), (.tmp 99)], (some 100), none⟩,
  ⟨.move (.tmp 100), (some 88), none⟩,
  ⟨.extract (.tmp 88) 0, (some 101), none⟩,
  ⟨.extract (.tmp 88) 1, (some 102), none⟩,
  ⟨.move (.tmp 101), (some 11), none⟩,
  ⟨.move (.tmp 102), (some 12), none⟩]
def o6_21 : List AOper := [⟨.move (.tmp 10), (some 103), none⟩,
  ⟨.move (.tmp 12), (some 104), none⟩,
  ⟨.bin .neq (.tmp 103) (.tmp 104), (some 105), none⟩,
  ⟨.move (.tmp 105), (some 106), none⟩,
  ⟨.move (.tmp 9), (some 107), (some (106, false))⟩,
  ⟨.bu .len [(.tmp 107)], (some 108), (some (106, false))⟩,
  ⟨.move (.tmp 11), (some 109), (some (106, false))⟩,
  ⟨.bu .len [(.tmp 109)], (some 110), (some (106, false))⟩,
  ⟨.bin .neq (.tmp 108) (.tmp 110), (some 111), (some (106, false))⟩,
  ⟨.pick (.tmp 106) (.const (.bool true)) (.tmp 111), (some 112), none⟩]
def o6_22 : List AOper := [⟨.move (.const (.bool false)), (some 4), none⟩]
def o6_23 : List AOper := [⟨.move (.tmp 9), (some 113), none⟩,
  ⟨.bu .len [(.tmp 113)], (some 114), none⟩,
  ⟨.move (.const (.int .i64 0)), (some 115), none⟩]
def o6_25 : List AOper := [⟨.bin .lss (.tmp 115) (.tmp 114), (some 116), none⟩]
def o6_26 : List AOper := [⟨.move (.tmp 115), (some 117), none⟩,
  ⟨.move (.tmp 117), (some 13), none⟩]
def d6_27 : List DOper := [⟨⟨.move (.tmp 9), (some 118), none⟩, 0⟩,
  ⟨⟨.move (.tmp 13), (some 119), none⟩, 0⟩,
  ⟨⟨.addrSl 3 (.tmp 118) (.tmp 119), (some 120), none⟩, 3⟩,
  ⟨⟨.fieldAddr 0 (.tmp 120), (some 121), none⟩, 7⟩,
  ⟨⟨.load none (.tmp 121), (some 122), none⟩, 15⟩,
  ⟨⟨.move (.tmp 11), (some 123), none⟩, 0⟩,
  ⟨⟨.move (.tmp 13), (some 124), none⟩, 0⟩,
  ⟨⟨.addrSl 3 (.tmp 123) (.tmp 124), (some 125), none⟩, 96⟩,
  ⟨⟨.fieldAddr 0 (.tmp 125), (some 126), none⟩, 224⟩,
  ⟨⟨.load none (.tmp 126), (some 127), none⟩, 480⟩,
  ⟨⟨.bin .neq (.tmp 122) (.tmp 127), (some 128), none⟩, 1023⟩,
  ⟨⟨.move (.tmp 128), (some 129), none⟩, 2047⟩,
  ⟨⟨.move (.tmp 9), (some 130), (some (129, false))⟩, 4095⟩,
  ⟨⟨.move (.tmp 13), (some 131), (some (129, false))⟩, 4095⟩,
  ⟨⟨.addrSl 3 (.tmp 130) (.tmp 131), (some 132), (some (129, false))⟩, 16383⟩,
  ⟨⟨.fieldAddr 1 (.tmp 132), (some 133), (some (129, false))⟩, 32767⟩,
  ⟨⟨.load none (.tmp 133), (some 134), (some (129, false))⟩, 65535⟩,
  ⟨⟨.move (.tmp 11), (some 135), (some (129, false))⟩, 4095⟩,
  ⟨⟨.move (.tmp 13), (some 136), (some (129, false))⟩, 4095⟩,
  ⟨⟨.addrSl 3 (.tmp 135) (.tmp 136), (some 137), (some (129, false))⟩, 397311⟩,
  ⟨⟨.fieldAddr 1 (.tmp 137), (some 138), (some (129, false))⟩, 921599⟩,
  ⟨⟨.load none (.tmp 138), (some 139), (some (129, false))⟩, 1970175⟩,
  ⟨⟨.bin .neq (.tmp 134) (.tmp 139), (some 140), (some (129, false))⟩, 4194303⟩,
  ⟨⟨.pick (.tmp 129) (.const (.bool true)) (.tmp 140), (some 141), none⟩, 8388607⟩,
  ⟨⟨.move (.tmp 141), (some 142), none⟩, 16777215⟩,
  ⟨⟨.move (.tmp 9), (some 143), (some (142, false))⟩, 33554431⟩,
  ⟨⟨.move (.tmp 13), (some 144), (some (142, false))⟩, 33554431⟩,
  ⟨⟨.addrSl 3 (.tmp 143) (.tmp 144), (some 145), (some (142, false))⟩, 134217727⟩,
  ⟨⟨.fieldAddr 2 (.tmp 145), (some 146), (some (142, false))⟩, 268435455⟩,
  ⟨⟨.load none (.tmp 146), (some 147), (some (142, false))⟩, 536870911⟩,
  ⟨⟨.move (.tmp 11), (some 148), (some (142, false))⟩, 33554431⟩,
  ⟨⟨.move (.tmp 13), (some 149), (some (142, false))⟩, 33554431⟩,
  ⟨⟨.addrSl 3 (.tmp 148) (.tmp 149), (some 150), (some (142, false))⟩, 3254779903⟩,
  ⟨⟨.fieldAddr 2 (.tmp 150), (some 151), (some (142, false))⟩, 7549747199⟩,
  ⟨⟨.load none (.tmp 151), (some 152), (some (142, false))⟩, 16139681791⟩,
  ⟨⟨.call (.func 14) [(.tmp 147), (.tmp 152)], (some 153), (some (142, false))⟩, 34359738367⟩,
  ⟨⟨.un .not (.tmp 153), (some 154), (some (142, false))⟩, 68719476735⟩,
  ⟨⟨.pick (.tmp 142) (.const (.bool true)) (.tmp 154), (some 155), none⟩, 137438953471⟩]
def o6_28 : List AOper := [⟨.move (.const (.bool false)), (some 4), none⟩]
def o6_29 : List AOper := [⟨.move (.tmp 9), (some 156), none⟩,
  ⟨.move (.tmp 13), (some 157), none⟩,
  ⟨.build [(.int .i64 0), (.int .i64 0), (.float .f64 0)] [(0, 1, (.const (.int .i64 (-1))))], (some 158), none⟩,
  ⟨.addrSl 3 (.tmp 156) (.tmp 157), (some 159), none⟩,
  ⟨.store 3 (.tmp 159) (.tmp 158), none, none⟩]
def o6_30 : List AOper := [⟨.bin .add (.tmp 115) (.const (.int .i64 1)), (some 160), none⟩,
  ⟨.move (.tmp 160), (some 115), none⟩]
def b6_24 : ACode := (.seq (.ops o6_25) (.seq (.cond (.tmp 116) .skip (.exit 4)) (.seq (.block 5 (.seq (.ops o6_26) (.seq (.seq (.draw d6_27) (.cond (.tmp 155) (.seq (.ops o6_28) .ret) .skip)) (.ops o6_29)))) (.ops o6_30))))
def o6_31 : List AOper := [⟨.move (.tmp 0), (some 161), none⟩,
  ⟨.bu .len [(.tmp 161)], (some 162), none⟩,
  ⟨.move (.const (.int .i64 0)), (some 163), none⟩]
def o6_33 : List AOper := [⟨.bin .lss (.tmp 163) (.tmp 162), (some 164), none⟩]
def o6_34 : List AOper := [⟨.move (.tmp 163), (some 165), none⟩,
  ⟨.move (.tmp 165), (some 14), none⟩]
def d6_35 : List DOper := [⟨⟨.move (.tmp 7), (some 166), none⟩, 0⟩,
  ⟨⟨.move (.tmp 14), (some 167), none⟩, 0⟩,
  ⟨⟨.addrSl 1 (.tmp 166) (.tmp 167), (some 168), none⟩, 3⟩,
  ⟨⟨.load none (.tmp 168), (some 169), none⟩, 7⟩,
  ⟨⟨.move (.tmp 0), (some 170), none⟩, 0⟩,
  ⟨⟨.move (.tmp 14), (some 171), none⟩, 0⟩,
  ⟨⟨.addrSl 1 (.tmp 170) (.tmp 171), (some 172), none⟩, 48⟩,
  ⟨⟨.load none (.tmp 172), (some 173), none⟩, 112⟩,
  ⟨⟨.call (.func 15) [(.tmp 169), (.tmp 173)], (some 174), none⟩, 255⟩,
  ⟨⟨.un .not (.tmp 174), (some 175), none⟩, 511⟩]
def o6_36 : List AOper := [⟨.move (.const (.bool false)), (some 4), none⟩]
def o6_37 : List AOper := [⟨.bin .add (.tmp 163) (.const (.int .i64 1)), (some 176), none⟩,
  ⟨.move (.tmp 176), (some 163), none⟩]
def b6_32 : ACode := (.seq (.ops o6_33) (.seq (.cond (.tmp 164) .skip (.exit 6)) (.seq (.block 7 (.seq (.ops o6_34) (.seq (.draw d6_35) (.cond (.tmp 175) (.seq (.ops o6_36) .ret) .skip)))) (.ops o6_37))))
def o6_38 : List AOper := [⟨.call (.func 10) [], (some 177), none⟩,
  ⟨.move (.tmp 177), (some 4), none⟩]
def ir6 : AFn := ⟨178, [.tmp 4], (.seq (.ops o6_0) (.seq (.ops o6_1) (.seq (.seq (.ops o6_2) (.block 0 (.loop b6_3))) (.seq (.seq (.draw d6_10) (.cond (.tmp 53) (.seq (.ops o6_11) .ret) .skip)) (.seq (.ops o6_12) (.seq (.seq (.ops o6_13) (.block 2 (.loop b6_14))) (.seq (.ops o6_19) (.seq (.ops o6_20) (.seq (.seq (.ops o6_21) (.cond (.tmp 112) (.seq (.ops o6_22) .ret) .skip)) (.seq (.seq (.ops o6_23) (.block 4 (.loop b6_24))) (.seq (.seq (.ops o6_31) (.block 6 (.loop b6_32))) (.seq (.ops o6_38) .ret))))))))))))⟩
theorem ir6_eq : fnsOf Try.prog 6 = some ir6 := by kernel_rfl

/-! F26 lookout/cfar.Map -/
def o26_0 : List AOper := [⟨.move (.const (.slice none 0 0)), (some 12), none⟩,
  ⟨.move (.const (.int .i64 0)), (some 13), none⟩]
def o26_1 : List AOper := [⟨.move (.tmp 0), (some 28), none⟩,
  ⟨.bu .len [(.tmp 28)], (some 29), none⟩,
  ⟨.bin .gtr (.tmp 29) (.const (.int .i64 256)), (some 30), none⟩]
def o26_2 : List AOper := [⟨.move (.const (.slice none 0 0)), (some 12), none⟩,
  ⟨.move (.const (.int .i64 3)), (some 13), none⟩]
def o26_3 : List AOper := [⟨.move (.const (.int .i64 0)), (some 14), none⟩]
def o26_4 : List AOper := [⟨.move (.tmp 0), (some 31), none⟩,
  ⟨.bu .len [(.tmp 31)], (some 32), none⟩,
  ⟨.move (.const (.int .i64 0)), (some 33), none⟩]
def o26_6 : List AOper := [⟨.bin .lss (.tmp 33) (.tmp 32), (some 34), none⟩]
def o26_7 : List AOper := [⟨.addrSl 1 (.tmp 31) (.tmp 33), (some 35), none⟩,
  ⟨.load none (.tmp 35), (some 36), none⟩,
  ⟨.move (.tmp 36), (some 16), none⟩]
def o26_8 : List AOper := [⟨.move (.tmp 14), (some 37), none⟩,
  ⟨.move (.tmp 16), (some 38), none⟩,
  ⟨.bu .len [(.tmp 38)], (some 39), none⟩,
  ⟨.bin .add (.tmp 37) (.tmp 39), (some 40), none⟩,
  ⟨.move (.tmp 40), (some 14), none⟩]
def o26_9 : List AOper := [⟨.move (.tmp 16), (some 41), none⟩,
  ⟨.bu .len [(.tmp 41)], (some 42), none⟩,
  ⟨.bin .gtr (.tmp 42) (.const (.int .i64 16384)), (some 43), none⟩,
  ⟨.move (.tmp 43), (some 44), none⟩,
  ⟨.move (.tmp 14), (some 45), (some (44, false))⟩,
  ⟨.bin .gtr (.tmp 45) (.const (.int .i64 262144)), (some 46), (some (44, false))⟩,
  ⟨.pick (.tmp 44) (.const (.bool true)) (.tmp 46), (some 47), none⟩]
def o26_10 : List AOper := [⟨.move (.const (.slice none 0 0)), (some 12), none⟩,
  ⟨.move (.const (.int .i64 3)), (some 13), none⟩]
def o26_11 : List AOper := [⟨.bin .add (.tmp 33) (.const (.int .i64 1)), (some 48), none⟩,
  ⟨.move (.tmp 48), (some 33), none⟩]
def b26_5 : ACode := (.seq (.ops o26_6) (.seq (.cond (.tmp 34) .skip (.exit 0)) (.seq (.block 1 (.seq (.ops o26_7) (.seq (.ops o26_8) (.seq (.ops o26_9) (.cond (.tmp 47) (.seq (.ops o26_10) .ret) .skip))))) (.ops o26_11))))
def o26_12 : List AOper := [⟨.move (.tmp 0), (some 49), none⟩,
  ⟨.bu .len [(.tmp 49)], (some 50), none⟩,
  ⟨.move (.const (.int .i64 0)), (some 51), none⟩]
def o26_14 : List AOper := [⟨.bin .lss (.tmp 51) (.tmp 50), (some 52), none⟩]
def o26_15 : List AOper := [⟨.addrSl 1 (.tmp 49) (.tmp 51), (some 53), none⟩,
  ⟨.load none (.tmp 53), (some 54), none⟩,
  ⟨.move (.tmp 54), (some 18), none⟩]
def o26_16 : List AOper := [⟨.move (.tmp 18), (some 55), none⟩,
  ⟨.bu .len [(.tmp 55)], (some 56), none⟩,
  ⟨.move (.tmp 0), (some 57), none⟩,
  ⟨.addrSl 1 (.tmp 57) (.const (.int .i64 0)), (some 58), none⟩,
  ⟨.load none (.tmp 58), (some 59), none⟩,
  ⟨.bu .len [(.tmp 59)], (some 60), none⟩,
  ⟨.bin .neq (.tmp 56) (.tmp 60), (some 61), none⟩]
def o26_17 : List AOper := [⟨.move (.const (.slice none 0 0)), (some 12), none⟩,
  ⟨.move (.const (.int .i64 5)), (some 13), none⟩]
def o26_18 : List AOper := [⟨.bin .add (.tmp 51) (.const (.int .i64 1)), (some 62), none⟩,
  ⟨.move (.tmp 62), (some 51), none⟩]
def b26_13 : ACode := (.seq (.ops o26_14) (.seq (.cond (.tmp 52) .skip (.exit 2)) (.seq (.block 3 (.seq (.ops o26_15) (.seq (.ops o26_16) (.cond (.tmp 61) (.seq (.ops o26_17) .ret) .skip)))) (.ops o26_18))))
def o26_19 : List AOper := [⟨.move (.tmp 1), (some 64), none⟩,
  ⟨.move (.tmp 2), (some 65), none⟩,
  ⟨.move (.tmp 3), (some 66), none⟩,
  ⟨.move (.tmp 4), (some 67), none⟩,
  ⟨.move (.tmp 5), (some 68), none⟩,
  ⟨.call (.func 16) [(.const (.slice none 0 0)), (.tmp 64), (.tmp 65), (.tmp 66), (.tmp 67), (.tmp 68)], (some 69), none⟩,
  ⟨.move (.tmp 69), (some 63), none⟩,
  ⟨.extract (.tmp 63) 0, (some 70), none⟩,
  ⟨.extract (.tmp 63) 1, (some 71), none⟩,
  ⟨.move (.tmp 70), (some 19), none⟩,
  ⟨.move (.tmp 71), (some 20), none⟩]
def o26_20 : List AOper := [⟨.move (.tmp 20), (some 72), none⟩,
  ⟨.bin .neq (.tmp 72) (.const (.int .i64 0)), (some 73), none⟩]
def o26_21 : List AOper := [⟨.move (.tmp 20), (some 74), none⟩,
  ⟨.move (.const (.slice none 0 0)), (some 12), none⟩,
  ⟨.move (.tmp 74), (some 13), none⟩]
def o26_22 : List AOper := [⟨.move (.const (.slice none 0 0)), (some 21), none⟩]
def o26_23 : List AOper := [⟨.move (.tmp 0), (some 75), none⟩,
  ⟨.bu .len [(.tmp 75)], (some 76), none⟩,
  ⟨.move (.const (.int .i64 0)), (some 77), none⟩]
def o26_25 : List AOper := [⟨.bin .lss (.tmp 77) (.tmp 76), (some 78), none⟩]
def o26_26 : List AOper := [⟨.move (.tmp 77), (some 79), none⟩,
  ⟨.addrSl 1 (.tmp 75) (.tmp 77), (some 80), none⟩,
  ⟨.load none (.tmp 80), (some 81), none⟩,
  ⟨.move (.tmp 79), (some 22), none⟩,
  ⟨.move (.tmp 81), (some 23), none⟩]
def o26_27 : List AOper := [⟨.move (.tmp 23), (some 83), none⟩,
  ⟨.move (.tmp 1), (some 84), none⟩,
  ⟨.move (.tmp 2), (some 85), none⟩,
  ⟨.move (.tmp 3), (some 86), none⟩,
  ⟨.move (.tmp 4), (some 87), none⟩,
  ⟨.move (.tmp 5), (some 88), none⟩,
  ⟨.call (.func 16) [(.tmp 83), (.tmp 84), (.tmp 85), (.tmp 86), (.tmp 87), (.tmp 88)], (some 89), none⟩,
  ⟨.move (.tmp 89), (some 82), none⟩,
  ⟨.extract (.tmp 82) 0, (some 90), none⟩,
  ⟨.extract (.tmp 82) 1, (some 91), none⟩,
  ⟨.move (.tmp 90), (some 24), none⟩,
  ⟨.move (.tmp 91), (some 25), none⟩]
def o26_28 : List AOper := [⟨.move (.tmp 24), (some 92), none⟩,
  ⟨.bu .len [(.tmp 92)], (some 93), none⟩,
  ⟨.move (.const (.int .i64 0)), (some 94), none⟩]
def o26_30 : List AOper := [⟨.bin .lss (.tmp 94) (.tmp 93), (some 95), none⟩]
def o26_31 : List AOper := [⟨.move (.tmp 94), (some 96), none⟩,
  ⟨.addrSl 1 (.tmp 92) (.tmp 94), (some 97), none⟩,
  ⟨.load none (.tmp 97), (some 98), none⟩,
  ⟨.move (.tmp 96), (some 26), none⟩,
  ⟨.move (.tmp 98), (some 27), none⟩]
def o26_32 : List AOper := [⟨.move (.tmp 27), (some 99), none⟩,
  ⟨.un .not (.tmp 99), (some 100), none⟩]
def o26_33 : List AOper := [⟨.move (.tmp 21), (some 101), none⟩,
  ⟨.bu .len [(.tmp 101)], (some 102), none⟩,
  ⟨.bin .eql (.tmp 102) (.const (.int .i64 4096)), (some 103), none⟩]
def o26_34 : List AOper := [⟨.move (.const (.slice none 0 0)), (some 12), none⟩,
  ⟨.move (.const (.int .i64 3)), (some 13), none⟩]
def o26_35 : List AOper := [⟨.move (.tmp 21), (some 104), none⟩,
  ⟨.move (.tmp 22), (some 105), none⟩,
  ⟨.move (.tmp 26), (some 106), none⟩,
  ⟨.move (.tmp 23), (some 107), none⟩,
  ⟨.move (.tmp 26), (some 108), none⟩,
  ⟨.addrSl 1 (.tmp 107) (.tmp 108), (some 109), none⟩,
  ⟨.load none (.tmp 109), (some 110), none⟩,
  ⟨.build [(.int .i64 0), (.int .i64 0), (.float .f64 0)] [(0, 1, (.tmp 105)), (1, 1, (.tmp 106)), (2, 1, (.tmp 110))], (some 111), none⟩,
  ⟨.buildSlice 52 3 [(.int .i64 0), (.int .i64 0), (.float .f64 0)] 1 [(0, (.tmp 111))], (some 112), none⟩,
  ⟨.append 52 24 3 [(.int .i64 0), (.int .i64 0), (.float .f64 0)] (.tmp 104) (.tmp 112), (some 113), none⟩,
  ⟨.move (.tmp 113), (some 21), none⟩]
def o26_36 : List AOper := [⟨.bin .add (.tmp 94) (.const (.int .i64 1)), (some 114), none⟩,
  ⟨.move (.tmp 114), (some 94), none⟩]
def b26_29 : ACode := (.seq (.ops o26_30) (.seq (.cond (.tmp 95) .skip (.exit 6)) (.seq (.block 7 (.seq (.ops o26_31) (.seq (.seq (.ops o26_32) (.cond (.tmp 100) (.exit 7) .skip)) (.seq (.seq (.ops o26_33) (.cond (.tmp 103) (.seq (.ops o26_34) .ret) .skip)) (.ops o26_35))))) (.ops o26_36))))
def o26_37 : List AOper := [⟨.bin .add (.tmp 77) (.const (.int .i64 1)), (some 115), none⟩,
  ⟨.move (.tmp 115), (some 77), none⟩]
def b26_24 : ACode := (.seq (.ops o26_25) (.seq (.cond (.tmp 78) .skip (.exit 4)) (.seq (.block 5 (.seq (.ops o26_26) (.seq (.ops o26_27) (.seq (.ops o26_28) (.block 6 (.loop b26_29)))))) (.ops o26_37))))
def o26_38 : List AOper := [⟨.move (.tmp 21), (some 116), none⟩,
  ⟨.move (.tmp 116), (some 12), none⟩,
  ⟨.move (.const (.int .i64 0)), (some 13), none⟩]
def ir26 : AFn := ⟨117, [.tmp 12, .tmp 13], (.seq (.ops o26_0) (.seq (.seq (.ops o26_1) (.cond (.tmp 30) (.seq (.ops o26_2) .ret) .skip)) (.seq (.ops o26_3) (.seq (.seq (.ops o26_4) (.block 0 (.loop b26_5))) (.seq (.seq (.ops o26_12) (.block 2 (.loop b26_13))) (.seq (.seq (.ops o26_19) (.seq (.ops o26_20) (.cond (.tmp 73) (.seq (.ops o26_21) .ret) .skip))) (.seq (.ops o26_22) (.seq (.seq (.ops o26_23) (.block 4 (.loop b26_24))) (.seq (.ops o26_38) .ret)))))))))⟩
theorem ir26_eq : fnsOf Try.prog 26 = some ir26 := by kernel_rfl

/-! F27 lookout/lookoutref14.Map -/
def o27_0 : List AOper := [⟨.move (.const (.slice none 0 0)), (some 12), none⟩,
  ⟨.move (.const (.int .i64 0)), (some 13), none⟩]
def o27_1 : List AOper := [⟨.move (.tmp 0), (some 24), none⟩,
  ⟨.bu .len [(.tmp 24)], (some 25), none⟩,
  ⟨.bin .gtr (.tmp 25) (.const (.int .i64 256)), (some 26), none⟩]
def o27_2 : List AOper := [⟨.move (.const (.slice none 0 0)), (some 12), none⟩,
  ⟨.move (.const (.int .i64 3)), (some 13), none⟩]
def o27_3 : List AOper := [⟨.move (.const (.int .i64 0)), (some 14), none⟩]
def o27_4 : List AOper := [⟨.move (.const (.int .i64 0)), (some 15), none⟩]
def o27_6 : List AOper := [⟨.move (.tmp 15), (some 27), none⟩,
  ⟨.move (.tmp 0), (some 28), none⟩,
  ⟨.bu .len [(.tmp 28)], (some 29), none⟩,
  ⟨.bin .lss (.tmp 27) (.tmp 29), (some 30), none⟩]
def o27_7 : List AOper := [⟨.move (.tmp 0), (some 33), none⟩,
  ⟨.move (.tmp 15), (some 34), none⟩,
  ⟨.addrSl 1 (.tmp 33) (.tmp 34), (some 35), none⟩,
  ⟨.load none (.tmp 35), (some 36), none⟩,
  ⟨.bu .len [(.tmp 36)], (some 37), none⟩,
  ⟨.bin .gtr (.tmp 37) (.const (.int .i64 16384)), (some 38), none⟩]
def o27_8 : List AOper := [⟨.move (.const (.slice none 0 0)), (some 12), none⟩,
  ⟨.move (.const (.int .i64 3)), (some 13), none⟩]
def o27_9 : List AOper := [⟨.move (.tmp 14), (some 39), none⟩,
  ⟨.move (.tmp 0), (some 40), none⟩,
  ⟨.move (.tmp 15), (some 41), none⟩,
  ⟨.addrSl 1 (.tmp 40) (.tmp 41), (some 42), none⟩,
  ⟨.load none (.tmp 42), (some 43), none⟩,
  ⟨.bu .len [(.tmp 43)], (some 44), none⟩,
  ⟨.bin .add (.tmp 39) (.tmp 44), (some 45), none⟩,
  ⟨.move (.tmp 45), (some 14), none⟩]
def o27_10 : List AOper := [⟨.move (.tmp 15), (some 31), none⟩,
  ⟨.bin .add (.tmp 31) (.const (.int .i64 1)), (some 32), none⟩,
  ⟨.move (.tmp 32), (some 15), none⟩]
def b27_5 : ACode := (.seq (.seq (.ops o27_6) (.cond (.tmp 30) .skip (.exit 0))) (.seq (.block 1 (.seq (.seq (.ops o27_7) (.cond (.tmp 38) (.seq (.ops o27_8) .ret) .skip)) (.ops o27_9))) (.ops o27_10)))
def o27_11 : List AOper := [⟨.move (.tmp 14), (some 46), none⟩,
  ⟨.bin .gtr (.tmp 46) (.const (.int .i64 262144)), (some 47), none⟩]
def o27_12 : List AOper := [⟨.move (.const (.slice none 0 0)), (some 12), none⟩,
  ⟨.move (.const (.int .i64 3)), (some 13), none⟩]
def o27_13 : List AOper := [⟨.move (.const (.int .i64 0)), (some 16), none⟩]
def o27_15 : List AOper := [⟨.move (.tmp 16), (some 48), none⟩,
  ⟨.move (.tmp 0), (some 49), none⟩,
  ⟨.bu .len [(.tmp 49)], (some 50), none⟩,
  ⟨.bin .lss (.tmp 48) (.tmp 50), (some 51), none⟩]
def d27_16 : List DOper := [⟨⟨.move (.tmp 0), (some 54), none⟩, 0⟩,
  ⟨⟨.move (.tmp 16), (some 55), none⟩, 0⟩,
  ⟨⟨.addrSl 1 (.tmp 54) (.tmp 55), (some 56), none⟩, 3⟩,
  ⟨⟨.load none (.tmp 56), (some 57), none⟩, 7⟩,
  ⟨⟨.bu .len [(.tmp 57)], (some 58), none⟩, 15⟩,
  ⟨⟨.move (.tmp 0), (some 59), none⟩, 0⟩,
  ⟨⟨.addrSl 1 (.tmp 59) (.const (.int .i64 0)), (some 60), none⟩, 32⟩,
  ⟨⟨.load none (.tmp 60), (some 61), none⟩, 96⟩,
  ⟨⟨.bu .len [(.tmp 61)], (some 62), none⟩, 224⟩,
  ⟨⟨.bin .neq (.tmp 58) (.tmp 62), (some 63), none⟩, 511⟩]
def o27_17 : List AOper := [⟨.move (.const (.slice none 0 0)), (some 12), none⟩,
  ⟨.move (.const (.int .i64 5)), (some 13), none⟩]
def o27_18 : List AOper := [⟨.move (.tmp 16), (some 52), none⟩,
  ⟨.bin .add (.tmp 52) (.const (.int .i64 1)), (some 53), none⟩,
  ⟨.move (.tmp 53), (some 16), none⟩]
def b27_14 : ACode := (.seq (.seq (.ops o27_15) (.cond (.tmp 51) .skip (.exit 2))) (.seq (.block 3 (.seq (.draw d27_16) (.cond (.tmp 63) (.seq (.ops o27_17) .ret) .skip))) (.ops o27_18)))
def o27_19 : List AOper := [⟨.move (.tmp 1), (some 65), none⟩,
  ⟨.move (.tmp 2), (some 66), none⟩,
  ⟨.move (.tmp 3), (some 67), none⟩,
  ⟨.move (.tmp 4), (some 68), none⟩,
  ⟨.move (.tmp 5), (some 69), none⟩,
  ⟨.call (.func 17) [(.const (.slice none 0 0)), (.tmp 65), (.tmp 66), (.tmp 67), (.tmp 68), (.tmp 69)], (some 70), none⟩,
  ⟨.move (.tmp 70), (some 64), none⟩,
  ⟨.extract (.tmp 64) 0, (some 71), none⟩,
  ⟨.extract (.tmp 64) 1, (some 72), none⟩,
  ⟨.move (.tmp 71), (some 17), none⟩,
  ⟨.move (.tmp 72), (some 18), none⟩]
def o27_20 : List AOper := [⟨.move (.tmp 18), (some 73), none⟩,
  ⟨.bin .neq (.tmp 73) (.const (.int .i64 0)), (some 74), none⟩]
def o27_21 : List AOper := [⟨.move (.tmp 18), (some 75), none⟩,
  ⟨.move (.const (.slice none 0 0)), (some 12), none⟩,
  ⟨.move (.tmp 75), (some 13), none⟩]
def o27_22 : List AOper := [⟨.move (.const (.slice none 0 0)), (some 19), none⟩]
def o27_23 : List AOper := [⟨.move (.const (.int .i64 0)), (some 20), none⟩]
def o27_25 : List AOper := [⟨.move (.tmp 20), (some 76), none⟩,
  ⟨.move (.tmp 0), (some 77), none⟩,
  ⟨.bu .len [(.tmp 77)], (some 78), none⟩,
  ⟨.bin .lss (.tmp 76) (.tmp 78), (some 79), none⟩]
def o27_26 : List AOper := [⟨.move (.tmp 0), (some 83), none⟩,
  ⟨.move (.tmp 20), (some 84), none⟩,
  ⟨.addrSl 1 (.tmp 83) (.tmp 84), (some 85), none⟩,
  ⟨.load none (.tmp 85), (some 86), none⟩,
  ⟨.move (.tmp 1), (some 87), none⟩,
  ⟨.move (.tmp 2), (some 88), none⟩,
  ⟨.move (.tmp 3), (some 89), none⟩,
  ⟨.move (.tmp 4), (some 90), none⟩,
  ⟨.move (.tmp 5), (some 91), none⟩,
  ⟨.call (.func 17) [(.tmp 86), (.tmp 87), (.tmp 88), (.tmp 89), (.tmp 90), (.tmp 91)], (some 92), none⟩,
  ⟨.move (.tmp 92), (some 82), none⟩,
  ⟨.extract (.tmp 82) 0, (some 93), none⟩,
  ⟨.extract (.tmp 82) 1, (some 94), none⟩,
  ⟨.move (.tmp 93), (some 21), none⟩,
  ⟨.move (.tmp 94), (some 22), none⟩]
def o27_27 : List AOper := [⟨.move (.const (.int .i64 0)), (some 23), none⟩]
def o27_29 : List AOper := [⟨.move (.tmp 23), (some 95), none⟩,
  ⟨.move (.tmp 21), (some 96), none⟩,
  ⟨.bu .len [(.tmp 96)], (some 97), none⟩,
  ⟨.bin .lss (.tmp 95) (.tmp 97), (some 98), none⟩]
def o27_30 : List AOper := [⟨.move (.tmp 21), (some 101), none⟩,
  ⟨.move (.tmp 23), (some 102), none⟩,
  ⟨.addrSl 1 (.tmp 101) (.tmp 102), (some 103), none⟩,
  ⟨.load none (.tmp 103), (some 104), none⟩,
  ⟨.un .not (.tmp 104), (some 105), none⟩]
def o27_31 : List AOper := [⟨.move (.tmp 19), (some 106), none⟩,
  ⟨.bu .len [(.tmp 106)], (some 107), none⟩,
  ⟨.bin .geq (.tmp 107) (.const (.int .i64 4096)), (some 108), none⟩]
def o27_32 : List AOper := [⟨.move (.const (.slice none 0 0)), (some 12), none⟩,
  ⟨.move (.const (.int .i64 3)), (some 13), none⟩]
def o27_33 : List AOper := [⟨.move (.tmp 19), (some 109), none⟩,
  ⟨.move (.tmp 20), (some 110), none⟩,
  ⟨.move (.tmp 23), (some 111), none⟩,
  ⟨.move (.tmp 0), (some 112), none⟩,
  ⟨.move (.tmp 20), (some 113), none⟩,
  ⟨.addrSl 1 (.tmp 112) (.tmp 113), (some 114), none⟩,
  ⟨.load none (.tmp 114), (some 115), none⟩,
  ⟨.move (.tmp 23), (some 116), none⟩,
  ⟨.addrSl 1 (.tmp 115) (.tmp 116), (some 117), none⟩,
  ⟨.load none (.tmp 117), (some 118), none⟩,
  ⟨.build [(.int .i64 0), (.int .i64 0), (.float .f64 0)] [(0, 1, (.tmp 110)), (1, 1, (.tmp 111)), (2, 1, (.tmp 118))], (some 119), none⟩,
  ⟨.buildSlice 52 3 [(.int .i64 0), (.int .i64 0), (.float .f64 0)] 1 [(0, (.tmp 119))], (some 120), none⟩,
  ⟨.append 52 24 3 [(.int .i64 0), (.int .i64 0), (.float .f64 0)] (.tmp 109) (.tmp 120), (some 121), none⟩,
  ⟨.move (.tmp 121), (some 19), none⟩]
def o27_34 : List AOper := [⟨.move (.tmp 23), (some 99), none⟩,
  ⟨.bin .add (.tmp 99) (.const (.int .i64 1)), (some 100), none⟩,
  ⟨.move (.tmp 100), (some 23), none⟩]
def b27_28 : ACode := (.seq (.seq (.ops o27_29) (.cond (.tmp 98) .skip (.exit 6))) (.seq (.block 7 (.seq (.seq (.ops o27_30) (.cond (.tmp 105) (.exit 7) .skip)) (.seq (.seq (.ops o27_31) (.cond (.tmp 108) (.seq (.ops o27_32) .ret) .skip)) (.ops o27_33)))) (.ops o27_34)))
def o27_35 : List AOper := [⟨.move (.tmp 20), (some 80), none⟩,
  ⟨.bin .add (.tmp 80) (.const (.int .i64 1)), (some 81), none⟩,
  ⟨.move (.tmp 81), (some 20), none⟩]
def b27_24 : ACode := (.seq (.seq (.ops o27_25) (.cond (.tmp 79) .skip (.exit 4))) (.seq (.block 5 (.seq (.ops o27_26) (.seq (.ops o27_27) (.block 6 (.loop b27_28))))) (.ops o27_35)))
def o27_36 : List AOper := [⟨.move (.tmp 19), (some 122), none⟩,
  ⟨.move (.tmp 122), (some 12), none⟩,
  ⟨.move (.const (.int .i64 0)), (some 13), none⟩]
def ir27 : AFn := ⟨123, [.tmp 12, .tmp 13], (.seq (.ops o27_0) (.seq (.seq (.ops o27_1) (.cond (.tmp 26) (.seq (.ops o27_2) .ret) .skip)) (.seq (.ops o27_3) (.seq (.seq (.ops o27_4) (.block 0 (.loop b27_5))) (.seq (.seq (.ops o27_11) (.cond (.tmp 47) (.seq (.ops o27_12) .ret) .skip)) (.seq (.seq (.ops o27_13) (.block 2 (.loop b27_14))) (.seq (.ops o27_19) (.seq (.seq (.ops o27_20) (.cond (.tmp 74) (.seq (.ops o27_21) .ret) .skip)) (.seq (.ops o27_22) (.seq (.seq (.ops o27_23) (.block 4 (.loop b27_24))) (.seq (.ops o27_36) .ret)))))))))))⟩
theorem ir27_eq : fnsOf Try.prog 27 = some ir27 := by kernel_rfl


end Go.Proofs.Ytfjdihfflghfpaa
