/- The small machine's text of functions of the seat. -/
import Derived.Test.YtpphomoijlilfaaRows
import Derived.Test.YtpphomoijlilfaaVam25
import Derived.KernelRfl
namespace Go.Proofs.Ytpphomoijlilfaa
open Go Go.Vam

/-! F7 lookout/lookoutlaw15.PeaksTops -/
def o7_0 : List AOper := [⟨.move (.const (.bool false)), (some 2), none⟩]
def o7_1 : List AOper := [⟨.move (.tmp 0), (some 12), none⟩,
  ⟨.bu .len [(.tmp 12)], (some 13), none⟩,
  ⟨.bin .gtr (.tmp 13) (.const (.int .i64 40)), (some 14), none⟩]
def o7_2 : List AOper := [⟨.call (.func 15) [], (some 15), none⟩,
  ⟨.move (.tmp 15), (some 2), none⟩]
def o7_3 : List AOper := [⟨.move (.tmp 0), (some 16), none⟩,
  ⟨.call (.func 11) [(.tmp 16)], (some 17), none⟩,
  ⟨.move (.tmp 17), (some 3), none⟩]
def o7_4 : List AOper := [⟨.move (.const (.int .i64 0)), (some 4), none⟩]
def o7_5 : List AOper := [⟨.move (.const (.int .i64 0)), (some 5), none⟩]
def o7_7 : List AOper := [⟨.move (.tmp 5), (some 18), none⟩,
  ⟨.move (.tmp 0), (some 19), none⟩,
  ⟨.bu .len [(.tmp 19)], (some 20), none⟩,
  ⟨.bin .lss (.tmp 18) (.tmp 20), (some 21), none⟩]
def o7_8 : List AOper := [⟨.move (.tmp 5), (some 24), none⟩,
  ⟨.bin .eql (.tmp 24) (.const (.int .i64 0)), (some 25), none⟩,
  ⟨.move (.tmp 25), (some 26), none⟩,
  ⟨.move (.tmp 0), (some 27), (some (26, false))⟩,
  ⟨.move (.tmp 5), (some 28), (some (26, false))⟩,
  ⟨.addrSl 1 (.tmp 27) (.tmp 28), (some 29), (some (26, false))⟩,
  ⟨.load none (.tmp 29), (some 30), (some (26, false))⟩,
  ⟨.bu .len [(.tmp 30)], (some 31), (some (26, false))⟩,
  ⟨.move (.tmp 4), (some 32), (some (26, false))⟩,
  ⟨.bin .lss (.tmp 31) (.tmp 32), (some 33), (some (26, false))⟩,
  ⟨.pick (.tmp 26) (.const (.bool true)) (.tmp 33), (some 34), none⟩]
def o7_9 : List AOper := [⟨.move (.tmp 0), (some 35), none⟩,
  ⟨.move (.tmp 5), (some 36), none⟩,
  ⟨.addrSl 1 (.tmp 35) (.tmp 36), (some 37), none⟩,
  ⟨.load none (.tmp 37), (some 38), none⟩,
  ⟨.bu .len [(.tmp 38)], (some 39), none⟩,
  ⟨.move (.tmp 39), (some 4), none⟩]
def o7_10 : List AOper := [⟨.move (.tmp 5), (some 22), none⟩,
  ⟨.bin .add (.tmp 22) (.const (.int .i64 1)), (some 23), none⟩,
  ⟨.move (.tmp 23), (some 5), none⟩]
def b7_6 : ACode := (.seq (.seq (.ops o7_7) (.cond (.tmp 21) .skip (.exit 0))) (.seq (.block 1 (.seq (.ops o7_8) (.cond (.tmp 34) (.ops o7_9) .skip))) (.ops o7_10)))
def o7_11 : List AOper := [⟨.move (.tmp 4), (some 40), none⟩,
  ⟨.bin .gtr (.tmp 40) (.const (.int .i64 200)), (some 41), none⟩]
def o7_12 : List AOper := [⟨.call (.func 15) [], (some 42), none⟩,
  ⟨.move (.tmp 42), (some 2), none⟩]
def o7_13 : List AOper := [⟨.move (.const (.float .f64 0)), (some 6), none⟩]
def o7_14 : List AOper := [⟨.move (.const (.int .i64 0)), (some 7), none⟩]
def o7_16 : List AOper := [⟨.move (.tmp 7), (some 43), none⟩,
  ⟨.move (.tmp 0), (some 44), none⟩,
  ⟨.bu .len [(.tmp 44)], (some 45), none⟩,
  ⟨.bin .lss (.tmp 43) (.tmp 45), (some 46), none⟩]
def o7_17 : List AOper := [⟨.move (.const (.int .i64 0)), (some 8), none⟩]
def o7_19 : List AOper := [⟨.move (.tmp 8), (some 49), none⟩,
  ⟨.move (.tmp 4), (some 50), none⟩,
  ⟨.bin .lss (.tmp 49) (.tmp 50), (some 51), none⟩]
def o7_20 : List AOper := [⟨.move (.tmp 0), (some 54), none⟩,
  ⟨.move (.tmp 7), (some 55), none⟩,
  ⟨.addrSl 1 (.tmp 54) (.tmp 55), (some 56), none⟩,
  ⟨.load none (.tmp 56), (some 57), none⟩,
  ⟨.move (.tmp 8), (some 58), none⟩,
  ⟨.addrSl 1 (.tmp 57) (.tmp 58), (some 59), none⟩,
  ⟨.load none (.tmp 59), (some 60), none⟩,
  ⟨.move (.tmp 6), (some 61), none⟩,
  ⟨.bin .gtr (.tmp 60) (.tmp 61), (some 62), none⟩]
def o7_21 : List AOper := [⟨.move (.tmp 0), (some 63), none⟩,
  ⟨.move (.tmp 7), (some 64), none⟩,
  ⟨.addrSl 1 (.tmp 63) (.tmp 64), (some 65), none⟩,
  ⟨.load none (.tmp 65), (some 66), none⟩,
  ⟨.move (.tmp 8), (some 67), none⟩,
  ⟨.addrSl 1 (.tmp 66) (.tmp 67), (some 68), none⟩,
  ⟨.load none (.tmp 68), (some 69), none⟩,
  ⟨.move (.tmp 69), (some 6), none⟩]
def o7_22 : List AOper := [⟨.move (.tmp 8), (some 52), none⟩,
  ⟨.bin .add (.tmp 52) (.const (.int .i64 1)), (some 53), none⟩,
  ⟨.move (.tmp 53), (some 8), none⟩]
def b7_18 : ACode := (.seq (.seq (.ops o7_19) (.cond (.tmp 51) .skip (.exit 4))) (.seq (.block 5 (.seq (.ops o7_20) (.cond (.tmp 62) (.ops o7_21) .skip))) (.ops o7_22)))
def o7_23 : List AOper := [⟨.move (.tmp 7), (some 47), none⟩,
  ⟨.bin .add (.tmp 47) (.const (.int .i64 1)), (some 48), none⟩,
  ⟨.move (.tmp 48), (some 7), none⟩]
def b7_15 : ACode := (.seq (.seq (.ops o7_16) (.cond (.tmp 46) .skip (.exit 2))) (.seq (.block 3 (.seq (.ops o7_17) (.block 4 (.loop b7_18)))) (.ops o7_23)))
def o7_24 : List AOper := [⟨.move (.tmp 6), (some 70), none⟩,
  ⟨.bin .eql (.tmp 70) (.const (.float .f64 0)), (some 71), none⟩,
  ⟨.move (.tmp 71), (some 9), none⟩]
def o7_25 : List AOper := [⟨.move (.const (.int .i64 0)), (some 10), none⟩]
def o7_27 : List AOper := [⟨.move (.tmp 10), (some 72), none⟩,
  ⟨.move (.tmp 3), (some 73), none⟩,
  ⟨.bu .len [(.tmp 73)], (some 74), none⟩,
  ⟨.bin .lss (.tmp 72) (.tmp 74), (some 75), none⟩]
def d7_28 : List DOper := [⟨⟨.move (.tmp 3), (some 78), none⟩, 0⟩,
  ⟨⟨.move (.tmp 10), (some 79), none⟩, 0⟩,
  ⟨⟨.addrSl 3 (.tmp 78) (.tmp 79), (some 80), none⟩, 3⟩,
  ⟨⟨.fieldAddr 0 (.tmp 80), (some 81), none⟩, 7⟩,
  ⟨⟨.load none (.tmp 81), (some 82), none⟩, 15⟩,
  ⟨⟨.bin .lss (.tmp 82) (.const (.int .i64 0)), (some 83), none⟩, 31⟩,
  ⟨⟨.move (.tmp 83), (some 84), none⟩, 63⟩,
  ⟨⟨.move (.tmp 3), (some 85), (some (84, false))⟩, 127⟩,
  ⟨⟨.move (.tmp 10), (some 86), (some (84, false))⟩, 127⟩,
  ⟨⟨.addrSl 3 (.tmp 85) (.tmp 86), (some 87), (some (84, false))⟩, 511⟩,
  ⟨⟨.fieldAddr 0 (.tmp 87), (some 88), (some (84, false))⟩, 1023⟩,
  ⟨⟨.load none (.tmp 88), (some 89), (some (84, false))⟩, 2047⟩,
  ⟨⟨.move (.tmp 0), (some 90), (some (84, false))⟩, 127⟩,
  ⟨⟨.bu .len [(.tmp 90)], (some 91), (some (84, false))⟩, 4223⟩,
  ⟨⟨.bin .geq (.tmp 89) (.tmp 91), (some 92), (some (84, false))⟩, 16383⟩,
  ⟨⟨.pick (.tmp 84) (.const (.bool true)) (.tmp 92), (some 93), none⟩, 32767⟩,
  ⟨⟨.move (.tmp 93), (some 94), none⟩, 65535⟩,
  ⟨⟨.move (.tmp 3), (some 95), (some (94, false))⟩, 131071⟩,
  ⟨⟨.move (.tmp 10), (some 96), (some (94, false))⟩, 131071⟩,
  ⟨⟨.addrSl 3 (.tmp 95) (.tmp 96), (some 97), (some (94, false))⟩, 524287⟩,
  ⟨⟨.fieldAddr 1 (.tmp 97), (some 98), (some (94, false))⟩, 1048575⟩,
  ⟨⟨.load none (.tmp 98), (some 99), (some (94, false))⟩, 2097151⟩,
  ⟨⟨.bin .lss (.tmp 99) (.const (.int .i64 0)), (some 100), (some (94, false))⟩, 4194303⟩,
  ⟨⟨.pick (.tmp 94) (.const (.bool true)) (.tmp 100), (some 101), none⟩, 8388607⟩,
  ⟨⟨.move (.tmp 101), (some 102), none⟩, 16777215⟩,
  ⟨⟨.move (.tmp 3), (some 103), (some (102, false))⟩, 33554431⟩,
  ⟨⟨.move (.tmp 10), (some 104), (some (102, false))⟩, 33554431⟩,
  ⟨⟨.addrSl 3 (.tmp 103) (.tmp 104), (some 105), (some (102, false))⟩, 134217727⟩,
  ⟨⟨.fieldAddr 1 (.tmp 105), (some 106), (some (102, false))⟩, 268435455⟩,
  ⟨⟨.load none (.tmp 106), (some 107), (some (102, false))⟩, 536870911⟩,
  ⟨⟨.move (.tmp 4), (some 108), (some (102, false))⟩, 33554431⟩,
  ⟨⟨.bin .geq (.tmp 107) (.tmp 108), (some 109), (some (102, false))⟩, 2147483647⟩,
  ⟨⟨.pick (.tmp 102) (.const (.bool true)) (.tmp 109), (some 110), none⟩, 4294967295⟩,
  ⟨⟨.move (.tmp 110), (some 111), none⟩, 8589934591⟩,
  ⟨⟨.move (.tmp 3), (some 112), (some (111, false))⟩, 17179869183⟩,
  ⟨⟨.move (.tmp 10), (some 113), (some (111, false))⟩, 17179869183⟩,
  ⟨⟨.addrSl 3 (.tmp 112) (.tmp 113), (some 114), (some (111, false))⟩, 68719476735⟩,
  ⟨⟨.fieldAddr 2 (.tmp 114), (some 115), (some (111, false))⟩, 137438953471⟩,
  ⟨⟨.load none (.tmp 115), (some 116), (some (111, false))⟩, 274877906943⟩,
  ⟨⟨.move (.tmp 0), (some 117), (some (111, false))⟩, 17179869183⟩,
  ⟨⟨.move (.tmp 3), (some 118), (some (111, false))⟩, 17179869183⟩,
  ⟨⟨.move (.tmp 10), (some 119), (some (111, false))⟩, 17179869183⟩,
  ⟨⟨.addrSl 3 (.tmp 118) (.tmp 119), (some 120), (some (111, false))⟩, 3315714752511⟩,
  ⟨⟨.fieldAddr 0 (.tmp 120), (some 121), (some (111, false))⟩, 7713761263615⟩,
  ⟨⟨.load none (.tmp 121), (some 122), (some (111, false))⟩, 16509854285823⟩,
  ⟨⟨.addrSl 1 (.tmp 117) (.tmp 122), (some 123), (some (111, false))⟩, 34651796144127⟩,
  ⟨⟨.load none (.tmp 123), (some 124), (some (111, false))⟩, 69836168232959⟩,
  ⟨⟨.move (.tmp 3), (some 125), (some (111, false))⟩, 17179869183⟩,
  ⟨⟨.move (.tmp 10), (some 126), (some (111, false))⟩, 17179869183⟩,
  ⟨⟨.addrSl 3 (.tmp 125) (.tmp 126), (some 127), (some (111, false))⟩, 422229644935167⟩,
  ⟨⟨.fieldAddr 1 (.tmp 127), (some 128), (some (111, false))⟩, 985179598356479⟩,
  ⟨⟨.load none (.tmp 128), (some 129), (some (111, false))⟩, 2111079505199103⟩,
  ⟨⟨.addrSl 1 (.tmp 124) (.tmp 129), (some 130), (some (111, false))⟩, 4503067051425791⟩,
  ⟨⟨.load none (.tmp 130), (some 131), (some (111, false))⟩, 9006666678796287⟩,
  ⟨⟨.bin .neq (.tmp 116) (.tmp 131), (some 132), (some (111, false))⟩, 18014398509481983⟩,
  ⟨⟨.pick (.tmp 111) (.const (.bool true)) (.tmp 132), (some 133), none⟩, 36028797018963967⟩,
  ⟨⟨.move (.tmp 133), (some 134), none⟩, 72057594037927935⟩,
  ⟨⟨.move (.tmp 3), (some 135), (some (134, false))⟩, 144115188075855871⟩,
  ⟨⟨.move (.tmp 10), (some 136), (some (134, false))⟩, 144115188075855871⟩,
  ⟨⟨.addrSl 3 (.tmp 135) (.tmp 136), (some 137), (some (134, false))⟩, 576460752303423487⟩,
  ⟨⟨.fieldAddr 2 (.tmp 137), (some 138), (some (134, false))⟩, 1152921504606846975⟩,
  ⟨⟨.load none (.tmp 138), (some 139), (some (134, false))⟩, 2305843009213693951⟩,
  ⟨⟨.bin .gtr (.tmp 139) (.const (.float .f64 0)), (some 140), (some (134, false))⟩, 4611686018427387903⟩,
  ⟨⟨.un .not (.tmp 140), (some 141), (some (134, false))⟩, 9223372036854775807⟩,
  ⟨⟨.pick (.tmp 134) (.const (.bool true)) (.tmp 141), (some 142), none⟩, 18446744073709551615⟩]
def o7_29 : List AOper := [⟨.move (.const (.bool false)), (some 2), none⟩]
def o7_30 : List AOper := [⟨.move (.tmp 9), (some 143), none⟩,
  ⟨.move (.tmp 143), (some 144), none⟩,
  ⟨.move (.tmp 3), (some 145), (some (144, false))⟩,
  ⟨.move (.tmp 10), (some 146), (some (144, false))⟩,
  ⟨.addrSl 3 (.tmp 145) (.tmp 146), (some 147), (some (144, false))⟩,
  ⟨.fieldAddr 2 (.tmp 147), (some 148), (some (144, false))⟩,
  ⟨.load none (.tmp 148), (some 149), (some (144, false))⟩,
  ⟨.move (.tmp 6), (some 150), (some (144, false))⟩,
  ⟨.bin .eql (.tmp 149) (.tmp 150), (some 151), (some (144, false))⟩,
  ⟨.pick (.tmp 144) (.const (.bool true)) (.tmp 151), (some 152), none⟩,
  ⟨.move (.tmp 152), (some 9), none⟩]
def o7_31 : List AOper := [⟨.move (.const (.int .i64 0)), (some 11), none⟩]
def o7_33 : List AOper := [⟨.move (.tmp 11), (some 153), none⟩,
  ⟨.move (.tmp 10), (some 154), none⟩,
  ⟨.bin .lss (.tmp 153) (.tmp 154), (some 155), none⟩]
def d7_34 : List DOper := [⟨⟨.move (.tmp 3), (some 158), none⟩, 0⟩,
  ⟨⟨.move (.tmp 10), (some 159), none⟩, 0⟩,
  ⟨⟨.addrSl 3 (.tmp 158) (.tmp 159), (some 160), none⟩, 3⟩,
  ⟨⟨.load (some 3) (.tmp 160), (some 161), none⟩, 7⟩,
  ⟨⟨.move (.tmp 3), (some 162), none⟩, 0⟩,
  ⟨⟨.move (.tmp 11), (some 163), none⟩, 0⟩,
  ⟨⟨.addrSl 3 (.tmp 162) (.tmp 163), (some 164), none⟩, 48⟩,
  ⟨⟨.load (some 3) (.tmp 164), (some 165), none⟩, 112⟩,
  ⟨⟨.move (.tmp 0), (some 166), none⟩, 0⟩,
  ⟨⟨.bu .len [(.tmp 166)], (some 167), none⟩, 256⟩,
  ⟨⟨.call (.func 28) [(.tmp 161), (.tmp 165), (.tmp 167)], (some 168), none⟩, 1023⟩,
  ⟨⟨.move (.tmp 168), (some 169), none⟩, 2047⟩,
  ⟨⟨.move (.tmp 3), (some 170), (some (169, false))⟩, 4095⟩,
  ⟨⟨.move (.tmp 11), (some 171), (some (169, false))⟩, 4095⟩,
  ⟨⟨.addrSl 3 (.tmp 170) (.tmp 171), (some 172), (some (169, false))⟩, 16383⟩,
  ⟨⟨.load (some 3) (.tmp 172), (some 173), (some (169, false))⟩, 32767⟩,
  ⟨⟨.move (.tmp 3), (some 174), (some (169, false))⟩, 4095⟩,
  ⟨⟨.move (.tmp 10), (some 175), (some (169, false))⟩, 4095⟩,
  ⟨⟨.addrSl 3 (.tmp 174) (.tmp 175), (some 176), (some (169, false))⟩, 200703⟩,
  ⟨⟨.load (some 3) (.tmp 176), (some 177), (some (169, false))⟩, 462847⟩,
  ⟨⟨.call (.func 29) [(.tmp 173), (.tmp 177)], (some 178), (some (169, false))⟩, 1048575⟩,
  ⟨⟨.un .not (.tmp 178), (some 179), (some (169, false))⟩, 2097151⟩,
  ⟨⟨.move (.tmp 179), (some 180), (some (169, false))⟩, 4194303⟩,
  ⟨⟨.move (.tmp 11), (some 181), (some (180, true))⟩, 8388607⟩,
  ⟨⟨.move (.tmp 10), (some 182), (some (180, true))⟩, 8388607⟩,
  ⟨⟨.bin .sub (.tmp 182) (.const (.int .i64 1)), (some 183), (some (180, true))⟩, 25165823⟩,
  ⟨⟨.bin .eql (.tmp 181) (.tmp 183), (some 184), (some (180, true))⟩, 67108863⟩,
  ⟨⟨.pick (.tmp 180) (.tmp 184) (.const (.bool false)), (some 185), (some (169, false))⟩, 134217727⟩,
  ⟨⟨.pick (.tmp 169) (.const (.bool true)) (.tmp 185), (some 186), none⟩, 268435455⟩]
def o7_35 : List AOper := [⟨.move (.const (.bool false)), (some 2), none⟩]
def o7_36 : List AOper := [⟨.move (.tmp 11), (some 156), none⟩,
  ⟨.bin .add (.tmp 156) (.const (.int .i64 1)), (some 157), none⟩,
  ⟨.move (.tmp 157), (some 11), none⟩]
def b7_32 : ACode := (.seq (.seq (.ops o7_33) (.cond (.tmp 155) .skip (.exit 8))) (.seq (.block 9 (.seq (.draw d7_34) (.cond (.tmp 186) (.seq (.ops o7_35) .ret) .skip))) (.ops o7_36)))
def o7_37 : List AOper := [⟨.move (.tmp 10), (some 76), none⟩,
  ⟨.bin .add (.tmp 76) (.const (.int .i64 1)), (some 77), none⟩,
  ⟨.move (.tmp 77), (some 10), none⟩]
def b7_26 : ACode := (.seq (.seq (.ops o7_27) (.cond (.tmp 75) .skip (.exit 6))) (.seq (.block 7 (.seq (.seq (.draw d7_28) (.cond (.tmp 142) (.seq (.ops o7_29) .ret) .skip)) (.seq (.ops o7_30) (.seq (.ops o7_31) (.block 8 (.loop b7_32)))))) (.ops o7_37)))
def o7_38 : List AOper := [⟨.move (.tmp 9), (some 187), none⟩,
  ⟨.move (.tmp 187), (some 188), none⟩,
  ⟨.move (.tmp 6), (some 189), (some (188, true))⟩,
  ⟨.bin .gtr (.tmp 189) (.const (.float .f64 0)), (some 190), (some (188, true))⟩,
  ⟨.move (.tmp 190), (some 191), (some (188, true))⟩,
  ⟨.move (.tmp 3), (some 192), (some (191, false))⟩,
  ⟨.bu .len [(.tmp 192)], (some 193), (some (191, false))⟩,
  ⟨.bin .eql (.tmp 193) (.const (.int .i64 0)), (some 194), (some (191, false))⟩,
  ⟨.pick (.tmp 191) (.const (.bool true)) (.tmp 194), (some 195), (some (188, true))⟩,
  ⟨.pick (.tmp 188) (.tmp 195) (.const (.bool false)), (some 196), none⟩,
  ⟨.move (.tmp 196), (some 197), none⟩,
  ⟨.call (.func 15) [], (some 198), (some (197, true))⟩,
  ⟨.pick (.tmp 197) (.tmp 198) (.const (.bool false)), (some 199), none⟩,
  ⟨.move (.tmp 199), (some 2), none⟩]
def ir7 : AFn := ⟨200, [.tmp 2], (.seq (.ops o7_0) (.seq (.seq (.ops o7_1) (.cond (.tmp 14) (.seq (.ops o7_2) .ret) .skip)) (.seq (.ops o7_3) (.seq (.ops o7_4) (.seq (.seq (.ops o7_5) (.block 0 (.loop b7_6))) (.seq (.seq (.ops o7_11) (.cond (.tmp 41) (.seq (.ops o7_12) .ret) .skip)) (.seq (.ops o7_13) (.seq (.seq (.ops o7_14) (.block 2 (.loop b7_15))) (.seq (.ops o7_24) (.seq (.seq (.ops o7_25) (.block 6 (.loop b7_26))) (.seq (.ops o7_38) .ret)))))))))))⟩
theorem ir7_eq : fnsOf Try.prog 7 = some ir7 := by kernel_rfl

/-! F11 lookout/peaks.Highest -/
def o11_0 : List AOper := [⟨.box 22 (.tmp 0), (some 1), none⟩,
  ⟨.move (.const (.slice none 0 0)), (some 2), none⟩]
def o11_1 : List AOper := [⟨.alloc 3 [(.int .i64 0)], (some 3), none⟩,
  ⟨.store 1 (.tmp 3) (.const (.int .i64 9223372036854775807)), none, none⟩]
def o11_2 : List AOper := [⟨.load none (.tmp 1), (some 12), none⟩,
  ⟨.bu .len [(.tmp 12)], (some 13), none⟩,
  ⟨.move (.const (.int .i64 0)), (some 14), none⟩]
def o11_4 : List AOper := [⟨.bin .lss (.tmp 14) (.tmp 13), (some 15), none⟩]
def o11_5 : List AOper := [⟨.addrSl 1 (.tmp 12) (.tmp 14), (some 16), none⟩,
  ⟨.load none (.tmp 16), (some 17), none⟩,
  ⟨.move (.tmp 17), (some 5), none⟩]
def o11_6 : List AOper := [⟨.load none (.tmp 3), (some 18), none⟩,
  ⟨.move (.tmp 5), (some 19), none⟩,
  ⟨.bu .len [(.tmp 19)], (some 20), none⟩,
  ⟨.bu .min [(.tmp 18), (.tmp 20)], (some 21), none⟩,
  ⟨.store 1 (.tmp 3) (.tmp 21), none, none⟩]
def o11_7 : List AOper := [⟨.bin .add (.tmp 14) (.const (.int .i64 1)), (some 22), none⟩,
  ⟨.move (.tmp 22), (some 14), none⟩]
def b11_3 : ACode := (.seq (.ops o11_4) (.seq (.cond (.tmp 15) .skip (.exit 0)) (.seq (.block 1 (.seq (.ops o11_5) (.ops o11_6))) (.ops o11_7))))
def o11_8 : List AOper := [⟨.move (.const (.slice none 0 0)), (some 6), none⟩]
def o11_9 : List AOper := [⟨.load none (.tmp 1), (some 23), none⟩,
  ⟨.bu .len [(.tmp 23)], (some 24), none⟩,
  ⟨.move (.const (.int .i64 0)), (some 25), none⟩]
def o11_11 : List AOper := [⟨.bin .lss (.tmp 25) (.tmp 24), (some 26), none⟩]
def o11_12 : List AOper := [⟨.move (.tmp 25), (some 27), none⟩,
  ⟨.addrSl 1 (.tmp 23) (.tmp 25), (some 28), none⟩,
  ⟨.load none (.tmp 28), (some 29), none⟩,
  ⟨.alloc 3 [(.int .i64 0)], (some 7), none⟩,
  ⟨.store 1 (.tmp 7) (.tmp 27), none, none⟩,
  ⟨.move (.tmp 29), (some 8), none⟩]
def o11_13 : List AOper := [⟨.move (.tmp 8), (some 30), none⟩,
  ⟨.load none (.tmp 3), (some 31), none⟩,
  ⟨.slSl 1 (.tmp 30) none (some (.tmp 31)) none, (some 32), none⟩,
  ⟨.bu .len [(.tmp 32)], (some 33), none⟩,
  ⟨.move (.const (.int .i64 0)), (some 34), none⟩]
def o11_15 : List AOper := [⟨.bin .lss (.tmp 34) (.tmp 33), (some 35), none⟩]
def o11_16 : List AOper := [⟨.move (.tmp 34), (some 36), none⟩,
  ⟨.addrSl 1 (.tmp 32) (.tmp 34), (some 37), none⟩,
  ⟨.load none (.tmp 37), (some 38), none⟩,
  ⟨.alloc 3 [(.int .i64 0)], (some 9), none⟩,
  ⟨.alloc 24 [(.float .f64 0)], (some 10), none⟩,
  ⟨.store 1 (.tmp 9) (.tmp 36), none, none⟩,
  ⟨.store 1 (.tmp 10) (.tmp 38), none, none⟩]
def o11_17 : List AOper := [⟨.load none (.tmp 10), (some 39), none⟩,
  ⟨.bin .gtr (.tmp 39) (.const (.float .f64 0)), (some 40), none⟩,
  ⟨.alloc 4 [(.bool false)], (some 11), none⟩,
  ⟨.store 1 (.tmp 11) (.tmp 40), none, none⟩]
def o11_18 : List AOper := [⟨.load none (.tmp 7), (some 41), none⟩,
  ⟨.load none (.tmp 9), (some 42), none⟩,
  ⟨.build [(.int .i64 0), (.int .i64 0)] [(0, 1, (.tmp 41)), (1, 1, (.tmp 42))], (some 43), none⟩,
  ⟨.load none (.tmp 1), (some 44), none⟩,
  ⟨.bu .len [(.tmp 44)], (some 45), none⟩,
  ⟨.mkFunc (.func 31) [] [(.tmp 3), (.tmp 1), (.tmp 10), (.tmp 7), (.tmp 9), (.tmp 11)], (some 46), none⟩,
  ⟨.call (.func 30) [(.tmp 43), (.tmp 45), (.tmp 46)], (some 47), none⟩]
def o11_19 : List AOper := [⟨.load none (.tmp 11), (some 48), none⟩]
def o11_20 : List AOper := [⟨.move (.tmp 6), (some 49), none⟩,
  ⟨.load none (.tmp 7), (some 50), none⟩,
  ⟨.load none (.tmp 9), (some 51), none⟩,
  ⟨.load none (.tmp 10), (some 52), none⟩,
  ⟨.build [(.int .i64 0), (.int .i64 0), (.float .f64 0)] [(0, 1, (.tmp 50)), (1, 1, (.tmp 51)), (2, 1, (.tmp 52))], (some 53), none⟩,
  ⟨.buildSlice 29 3 [(.int .i64 0), (.int .i64 0), (.float .f64 0)] 1 [(0, (.tmp 53))], (some 54), none⟩,
  ⟨.append 29 24 3 [(.int .i64 0), (.int .i64 0), (.float .f64 0)] (.tmp 49) (.tmp 54), (some 55), none⟩,
  ⟨.move (.tmp 55), (some 6), none⟩]
def o11_21 : List AOper := [⟨.bin .add (.tmp 34) (.const (.int .i64 1)), (some 56), none⟩,
  ⟨.move (.tmp 56), (some 34), none⟩]
def b11_14 : ACode := (.seq (.ops o11_15) (.seq (.cond (.tmp 35) .skip (.exit 4)) (.seq (.block 5 (.seq (.ops o11_16) (.seq (.ops o11_17) (.seq (.ops o11_18) (.seq (.ops o11_19) (.cond (.tmp 48) (.ops o11_20) .skip)))))) (.ops o11_21))))
def o11_22 : List AOper := [⟨.bin .add (.tmp 25) (.const (.int .i64 1)), (some 57), none⟩,
  ⟨.move (.tmp 57), (some 25), none⟩]
def b11_10 : ACode := (.seq (.ops o11_11) (.seq (.cond (.tmp 26) .skip (.exit 2)) (.seq (.block 3 (.seq (.ops o11_12) (.seq (.ops o11_13) (.block 4 (.loop b11_14))))) (.ops o11_22))))
def o11_23 : List AOper := [⟨.move (.tmp 6), (some 58), none⟩,
  ⟨.move (.tmp 58), (some 2), none⟩]
def ir11 : AFn := ⟨59, [.tmp 2], (.seq (.ops o11_0) (.seq (.ops o11_1) (.seq (.seq (.ops o11_2) (.block 0 (.loop b11_3))) (.seq (.ops o11_8) (.seq (.seq (.ops o11_9) (.block 2 (.loop b11_10))) (.seq (.ops o11_23) .ret))))))⟩
theorem ir11_eq : fnsOf Try.prog 11 = some ir11 := by kernel_rfl

/-! F28 lookout/lookoutlaw15.next -/
def o28_0 : List AOper := [⟨.box 29 (.tmp 0), (some 3), none⟩,
  ⟨.box 29 (.tmp 1), (some 4), none⟩,
  ⟨.move (.const (.bool false)), (some 6), none⟩]
def o28_1 : List AOper := [⟨.fieldAddr 1 (.tmp 3), (some 10), none⟩,
  ⟨.load none (.tmp 10), (some 11), none⟩,
  ⟨.fieldAddr 1 (.tmp 4), (some 12), none⟩,
  ⟨.load none (.tmp 12), (some 13), none⟩,
  ⟨.bin .sub (.tmp 11) (.tmp 13), (some 14), none⟩,
  ⟨.move (.tmp 14), (some 7), none⟩]
def o28_2 : List AOper := [⟨.fieldAddr 0 (.tmp 3), (some 15), none⟩,
  ⟨.load none (.tmp 15), (some 16), none⟩,
  ⟨.fieldAddr 0 (.tmp 4), (some 17), none⟩,
  ⟨.load none (.tmp 17), (some 18), none⟩,
  ⟨.bin .sub (.tmp 16) (.tmp 18), (some 19), none⟩,
  ⟨.move (.tmp 2), (some 20), none⟩,
  ⟨.bin .rem (.tmp 19) (.tmp 20), (some 21), none⟩,
  ⟨.move (.tmp 2), (some 22), none⟩,
  ⟨.bin .add (.tmp 21) (.tmp 22), (some 23), none⟩,
  ⟨.move (.tmp 2), (some 24), none⟩,
  ⟨.bin .rem (.tmp 23) (.tmp 24), (some 25), none⟩,
  ⟨.move (.tmp 25), (some 8), none⟩]
def o28_3 : List AOper := [⟨.move (.tmp 8), (some 26), none⟩,
  ⟨.bin .leq (.tmp 26) (.const (.int .i64 1)), (some 27), none⟩,
  ⟨.move (.tmp 27), (some 28), none⟩,
  ⟨.move (.tmp 8), (some 29), (some (28, false))⟩,
  ⟨.move (.tmp 2), (some 30), (some (28, false))⟩,
  ⟨.bin .sub (.tmp 30) (.const (.int .i64 1)), (some 31), (some (28, false))⟩,
  ⟨.bin .eql (.tmp 29) (.tmp 31), (some 32), (some (28, false))⟩,
  ⟨.pick (.tmp 28) (.const (.bool true)) (.tmp 32), (some 33), none⟩,
  ⟨.move (.tmp 33), (some 9), none⟩]
def o28_4 : List AOper := [⟨.move (.tmp 9), (some 34), none⟩,
  ⟨.move (.tmp 34), (some 35), none⟩,
  ⟨.move (.tmp 7), (some 36), (some (35, true))⟩,
  ⟨.bin .geq (.tmp 36) (.const (.int .i64 (-1))), (some 37), (some (35, true))⟩,
  ⟨.pick (.tmp 35) (.tmp 37) (.const (.bool false)), (some 38), none⟩,
  ⟨.move (.tmp 38), (some 39), none⟩,
  ⟨.move (.tmp 7), (some 40), (some (39, true))⟩,
  ⟨.bin .leq (.tmp 40) (.const (.int .i64 1)), (some 41), (some (39, true))⟩,
  ⟨.pick (.tmp 39) (.tmp 41) (.const (.bool false)), (some 42), none⟩,
  ⟨.move (.tmp 42), (some 43), none⟩,
  ⟨.move (.tmp 8), (some 44), (some (43, true))⟩,
  ⟨.bin .neq (.tmp 44) (.const (.int .i64 0)), (some 45), (some (43, true))⟩,
  ⟨.move (.tmp 45), (some 46), (some (43, true))⟩,
  ⟨.move (.tmp 7), (some 47), (some (46, false))⟩,
  ⟨.bin .neq (.tmp 47) (.const (.int .i64 0)), (some 48), (some (46, false))⟩,
  ⟨.pick (.tmp 46) (.const (.bool true)) (.tmp 48), (some 49), (some (43, true))⟩,
  ⟨.pick (.tmp 43) (.tmp 49) (.const (.bool false)), (some 50), none⟩,
  ⟨.move (.tmp 50), (some 6), none⟩]
def ir28 : AFn := ⟨51, [.tmp 6], (.seq (.ops o28_0) (.seq (.ops o28_1) (.seq (.ops o28_2) (.seq (.ops o28_3) (.seq (.ops o28_4) .ret)))))⟩
theorem ir28_eq : fnsOf Try.prog 28 = some ir28 := by kernel_rfl

/-! F29 lookout/lookoutlaw15.ahead -/
def o29_0 : List AOper := [⟨.box 29 (.tmp 0), (some 2), none⟩,
  ⟨.box 29 (.tmp 1), (some 3), none⟩,
  ⟨.move (.const (.bool false)), (some 4), none⟩]
def o29_1 : List AOper := [⟨.fieldAddr 0 (.tmp 2), (some 5), none⟩,
  ⟨.load none (.tmp 5), (some 6), none⟩,
  ⟨.fieldAddr 0 (.tmp 3), (some 7), none⟩,
  ⟨.load none (.tmp 7), (some 8), none⟩,
  ⟨.bin .lss (.tmp 6) (.tmp 8), (some 9), none⟩,
  ⟨.move (.tmp 9), (some 10), none⟩,
  ⟨.fieldAddr 0 (.tmp 2), (some 11), (some (10, false))⟩,
  ⟨.load none (.tmp 11), (some 12), (some (10, false))⟩,
  ⟨.fieldAddr 0 (.tmp 3), (some 13), (some (10, false))⟩,
  ⟨.load none (.tmp 13), (some 14), (some (10, false))⟩,
  ⟨.bin .eql (.tmp 12) (.tmp 14), (some 15), (some (10, false))⟩,
  ⟨.move (.tmp 15), (some 16), (some (10, false))⟩,
  ⟨.fieldAddr 1 (.tmp 2), (some 17), (some (16, true))⟩,
  ⟨.load none (.tmp 17), (some 18), (some (16, true))⟩,
  ⟨.fieldAddr 1 (.tmp 3), (some 19), (some (16, true))⟩,
  ⟨.load none (.tmp 19), (some 20), (some (16, true))⟩,
  ⟨.bin .lss (.tmp 18) (.tmp 20), (some 21), (some (16, true))⟩,
  ⟨.pick (.tmp 16) (.tmp 21) (.const (.bool false)), (some 22), (some (10, false))⟩,
  ⟨.pick (.tmp 10) (.const (.bool true)) (.tmp 22), (some 23), none⟩,
  ⟨.move (.tmp 23), (some 4), none⟩]
def ir29 : AFn := ⟨24, [.tmp 4], (.seq (.ops o29_0) (.seq (.ops o29_1) .ret))⟩
theorem ir29_eq : fnsOf Try.prog 29 = some ir29 := by kernel_rfl

/-! F30 lookout/peaks.about -/
def o30_0 : List AOper := [⟨.box 55 (.tmp 0), (some 3), none⟩]
def d30_1 : List DOper := [⟨⟨.fieldAddr 0 (.tmp 3), (some 15), none⟩, 0⟩,
  ⟨⟨.load none (.tmp 15), (some 16), none⟩, 1⟩,
  ⟨⟨.bin .sub (.tmp 16) (.const (.int .i64 1)), (some 17), none⟩, 3⟩,
  ⟨⟨.fieldAddr 0 (.tmp 3), (some 18), none⟩, 0⟩,
  ⟨⟨.load none (.tmp 18), (some 19), none⟩, 8⟩,
  ⟨⟨.bin .add (.tmp 19) (.const (.int .i64 1)), (some 20), none⟩, 24⟩,
  ⟨⟨.move (.tmp 17), (some 6), none⟩, 7⟩,
  ⟨⟨.move (.tmp 20), (some 7), none⟩, 127⟩]
def o30_2 : List AOper := [⟨.fieldAddr 0 (.tmp 3), (some 21), none⟩,
  ⟨.load none (.tmp 21), (some 22), none⟩,
  ⟨.bin .eql (.tmp 22) (.const (.int .i64 0)), (some 23), none⟩]
def o30_3 : List AOper := [⟨.move (.tmp 1), (some 24), none⟩,
  ⟨.bin .sub (.tmp 24) (.const (.int .i64 1)), (some 25), none⟩,
  ⟨.move (.tmp 25), (some 6), none⟩]
def o30_4 : List AOper := [⟨.fieldAddr 0 (.tmp 3), (some 26), none⟩,
  ⟨.load none (.tmp 26), (some 27), none⟩,
  ⟨.move (.tmp 1), (some 28), none⟩,
  ⟨.bin .sub (.tmp 28) (.const (.int .i64 1)), (some 29), none⟩,
  ⟨.bin .eql (.tmp 27) (.tmp 29), (some 30), none⟩]
def o30_5 : List AOper := [⟨.move (.const (.int .i64 0)), (some 7), none⟩]
def o30_6 : List AOper := [⟨.fieldAddr 0 (.tmp 3), (some 31), none⟩,
  ⟨.load none (.tmp 31), (some 32), none⟩,
  ⟨.build [(.int .i64 0), (.int .i64 0), (.int .i64 0)] [(0, 1, (.tmp 32)), (1, 1, (.const (.int .i64 (-1)))), (2, 1, (.const (.int .i64 (-1))))], (some 33), none⟩,
  ⟨.alloc 76 [(.int .i64 0), (.int .i64 0), (.int .i64 0)], (some 8), none⟩,
  ⟨.store 3 (.tmp 8) (.tmp 33), none, none⟩]
def o30_7 : List AOper := [⟨.move (.const (.int .i64 1)), (some 9), none⟩]
def o30_8 : List AOper := [⟨.move (.tmp 6), (some 34), none⟩,
  ⟨.move (.tmp 7), (some 35), none⟩,
  ⟨.build [(.int .i64 0), (.int .i64 0)] [(0, 1, (.tmp 34)), (1, 1, (.tmp 35))], (some 36), none⟩,
  ⟨.move (.const (.int .i64 0)), (some 37), none⟩]
def o30_10 : List AOper := [⟨.bin .lss (.tmp 37) (.const (.int .i64 2)), (some 38), none⟩]
def o30_11 : List AOper := [⟨.idxArr 2 1 false (.tmp 36) (.tmp 37), (some 39), none⟩,
  ⟨.move (.tmp 39), (some 11), none⟩]
def o30_12 : List AOper := [⟨.move (.tmp 9), (some 40), none⟩,
  ⟨.slArr 3 1 (.tmp 8) none (some (.tmp 40)) none, (some 41), none⟩,
  ⟨.move (.tmp 11), (some 42), none⟩,
  ⟨.call (.func 52) [(.tmp 41), (.tmp 42)], (some 43), none⟩,
  ⟨.un .not (.tmp 43), (some 44), none⟩]
def o30_13 : List AOper := [⟨.move (.tmp 9), (some 45), none⟩,
  ⟨.move (.tmp 11), (some 46), none⟩,
  ⟨.addrArr 3 1 (.tmp 8) (.tmp 45), (some 47), none⟩,
  ⟨.store 1 (.tmp 47) (.tmp 46), none, none⟩]
def o30_14 : List AOper := [⟨.move (.tmp 9), (some 48), none⟩,
  ⟨.bin .add (.tmp 48) (.const (.int .i64 1)), (some 49), none⟩,
  ⟨.move (.tmp 49), (some 9), none⟩]
def o30_15 : List AOper := [⟨.bin .add (.tmp 37) (.const (.int .i64 1)), (some 50), none⟩,
  ⟨.move (.tmp 50), (some 37), none⟩]
def b30_9 : ACode := (.seq (.ops o30_10) (.seq (.cond (.tmp 38) .skip (.exit 0)) (.seq (.block 1 (.seq (.ops o30_11) (.seq (.ops o30_12) (.cond (.tmp 44) (.seq (.ops o30_13) (.ops o30_14)) .skip)))) (.ops o30_15))))
def o30_16 : List AOper := [⟨.move (.tmp 9), (some 51), none⟩,
  ⟨.slArr 3 1 (.tmp 8) none (some (.tmp 51)) none, (some 52), none⟩,
  ⟨.bu .len [(.tmp 52)], (some 53), none⟩,
  ⟨.move (.const (.int .i64 0)), (some 54), none⟩]
def o30_18 : List AOper := [⟨.bin .lss (.tmp 54) (.tmp 53), (some 55), none⟩]
def o30_19 : List AOper := [⟨.addrSl 1 (.tmp 52) (.tmp 54), (some 56), none⟩,
  ⟨.load none (.tmp 56), (some 57), none⟩,
  ⟨.move (.tmp 57), (some 13), none⟩]
def o30_20 : List AOper := [⟨.move (.const (.int .i64 (-1))), (some 14), none⟩]
def o30_22 : List AOper := [⟨.move (.tmp 14), (some 58), none⟩,
  ⟨.bin .leq (.tmp 58) (.const (.int .i64 1)), (some 59), none⟩]
def o30_23 : List AOper := [⟨.move (.tmp 13), (some 62), none⟩,
  ⟨.fieldAddr 0 (.tmp 3), (some 63), none⟩,
  ⟨.load none (.tmp 63), (some 64), none⟩,
  ⟨.bin .neq (.tmp 62) (.tmp 64), (some 65), none⟩,
  ⟨.move (.tmp 65), (some 66), none⟩,
  ⟨.move (.tmp 14), (some 67), (some (66, false))⟩,
  ⟨.bin .neq (.tmp 67) (.const (.int .i64 0)), (some 68), (some (66, false))⟩,
  ⟨.pick (.tmp 66) (.const (.bool true)) (.tmp 68), (some 69), none⟩]
def o30_24 : List AOper := [⟨.move (.tmp 2), (some 70), none⟩,
  ⟨.move (.tmp 13), (some 71), none⟩,
  ⟨.fieldAddr 1 (.tmp 3), (some 72), none⟩,
  ⟨.load none (.tmp 72), (some 73), none⟩,
  ⟨.move (.tmp 14), (some 74), none⟩,
  ⟨.bin .add (.tmp 73) (.tmp 74), (some 75), none⟩,
  ⟨.build [(.int .i64 0), (.int .i64 0)] [(0, 1, (.tmp 71)), (1, 1, (.tmp 75))], (some 76), none⟩,
  ⟨.call (.tmp 70) [(.tmp 76)], (some 77), none⟩]
def o30_25 : List AOper := [⟨.move (.tmp 14), (some 60), none⟩,
  ⟨.bin .add (.tmp 60) (.const (.int .i64 1)), (some 61), none⟩,
  ⟨.move (.tmp 61), (some 14), none⟩]
def b30_21 : ACode := (.seq (.seq (.ops o30_22) (.cond (.tmp 59) .skip (.exit 4))) (.seq (.block 5 (.seq (.ops o30_23) (.cond (.tmp 69) (.ops o30_24) .skip))) (.ops o30_25)))
def o30_26 : List AOper := [⟨.bin .add (.tmp 54) (.const (.int .i64 1)), (some 78), none⟩,
  ⟨.move (.tmp 78), (some 54), none⟩]
def b30_17 : ACode := (.seq (.ops o30_18) (.seq (.cond (.tmp 55) .skip (.exit 2)) (.seq (.block 3 (.seq (.ops o30_19) (.seq (.ops o30_20) (.block 4 (.loop b30_21))))) (.ops o30_26))))
def ir30 : AFn := ⟨79, [], (.seq (.ops o30_0) (.seq (.draw d30_1) (.seq (.seq (.ops o30_2) (.cond (.tmp 23) (.ops o30_3) .skip)) (.seq (.seq (.ops o30_4) (.cond (.tmp 30) (.ops o30_5) .skip)) (.seq (.ops o30_6) (.seq (.ops o30_7) (.seq (.seq (.ops o30_8) (.block 0 (.loop b30_9))) (.seq (.ops o30_16) (.block 2 (.loop b30_17))))))))))⟩
theorem ir30_eq : fnsOf Try.prog 30 = some ir30 := by kernel_rfl

/-! F31 lookout/peaks.Highest$1 -/
def o31_0 : List AOper := [⟨.box 55 (.tmp 0), (some 7), none⟩]
def o31_1 : List AOper := [⟨.fieldAddr 1 (.tmp 7), (some 9), none⟩,
  ⟨.load none (.tmp 9), (some 10), none⟩,
  ⟨.bin .lss (.tmp 10) (.const (.int .i64 0)), (some 11), none⟩,
  ⟨.move (.tmp 11), (some 12), none⟩,
  ⟨.fieldAddr 1 (.tmp 7), (some 13), (some (12, false))⟩,
  ⟨.load none (.tmp 13), (some 14), (some (12, false))⟩,
  ⟨.load none (.tmp 1), (some 15), (some (12, false))⟩,
  ⟨.bin .geq (.tmp 14) (.tmp 15), (some 16), (some (12, false))⟩,
  ⟨.pick (.tmp 12) (.const (.bool true)) (.tmp 16), (some 17), none⟩]
def d31_2 : List DOper := [⟨⟨.load none (.tmp 2), (some 18), none⟩, 0⟩,
  ⟨⟨.fieldAddr 0 (.tmp 7), (some 19), none⟩, 0⟩,
  ⟨⟨.load none (.tmp 19), (some 20), none⟩, 2⟩,
  ⟨⟨.addrSl 1 (.tmp 18) (.tmp 20), (some 21), none⟩, 7⟩,
  ⟨⟨.load none (.tmp 21), (some 22), none⟩, 15⟩,
  ⟨⟨.fieldAddr 1 (.tmp 7), (some 23), none⟩, 0⟩,
  ⟨⟨.load none (.tmp 23), (some 24), none⟩, 32⟩,
  ⟨⟨.addrSl 1 (.tmp 22) (.tmp 24), (some 25), none⟩, 127⟩,
  ⟨⟨.load none (.tmp 25), (some 26), none⟩, 255⟩,
  ⟨⟨.move (.tmp 26), (some 8), none⟩, 511⟩]
def o31_3 : List AOper := [⟨.move (.tmp 8), (some 27), none⟩,
  ⟨.load none (.tmp 3), (some 28), none⟩,
  ⟨.bin .gtr (.tmp 27) (.tmp 28), (some 29), none⟩,
  ⟨.move (.tmp 29), (some 30), none⟩,
  ⟨.move (.tmp 8), (some 31), (some (30, false))⟩,
  ⟨.load none (.tmp 3), (some 32), (some (30, false))⟩,
  ⟨.bin .eql (.tmp 31) (.tmp 32), (some 33), (some (30, false))⟩,
  ⟨.move (.tmp 33), (some 34), (some (30, false))⟩,
  ⟨.fieldAddr 0 (.tmp 7), (some 35), (some (34, true))⟩,
  ⟨.load none (.tmp 35), (some 36), (some (34, true))⟩,
  ⟨.load none (.tmp 4), (some 37), (some (34, true))⟩,
  ⟨.bin .lss (.tmp 36) (.tmp 37), (some 38), (some (34, true))⟩,
  ⟨.move (.tmp 38), (some 39), (some (34, true))⟩,
  ⟨.fieldAddr 0 (.tmp 7), (some 40), (some (39, false))⟩,
  ⟨.load none (.tmp 40), (some 41), (some (39, false))⟩,
  ⟨.load none (.tmp 4), (some 42), (some (39, false))⟩,
  ⟨.bin .eql (.tmp 41) (.tmp 42), (some 43), (some (39, false))⟩,
  ⟨.move (.tmp 43), (some 44), (some (39, false))⟩,
  ⟨.fieldAddr 1 (.tmp 7), (some 45), (some (44, true))⟩,
  ⟨.load none (.tmp 45), (some 46), (some (44, true))⟩,
  ⟨.load none (.tmp 5), (some 47), (some (44, true))⟩,
  ⟨.bin .lss (.tmp 46) (.tmp 47), (some 48), (some (44, true))⟩,
  ⟨.pick (.tmp 44) (.tmp 48) (.const (.bool false)), (some 49), (some (39, false))⟩,
  ⟨.pick (.tmp 39) (.const (.bool true)) (.tmp 49), (some 50), (some (34, true))⟩,
  ⟨.pick (.tmp 34) (.tmp 50) (.const (.bool false)), (some 51), (some (30, false))⟩,
  ⟨.pick (.tmp 30) (.const (.bool true)) (.tmp 51), (some 52), none⟩]
def o31_4 : List AOper := [⟨.store 1 (.tmp 6) (.const (.bool false)), none, none⟩]
def ir31 : AFn := ⟨53, [], (.seq (.ops o31_0) (.seq (.seq (.ops o31_1) (.cond (.tmp 17) .ret .skip)) (.seq (.draw d31_2) (.seq (.ops o31_3) (.cond (.tmp 52) (.ops o31_4) .skip)))))⟩
theorem ir31_eq : fnsOf Try.prog 31 = some ir31 := by kernel_rfl

/-! F52 slices.Contains[[]int,int] -/
def o52_0 : List AOper := [⟨.move (.const (.bool false)), (some 4), none⟩]
def o52_1 : List AOper := [⟨.move (.tmp 0), (some 5), none⟩,
  ⟨.move (.tmp 1), (some 6), none⟩,
  ⟨.call (.func 60) [(.tmp 5), (.tmp 6)], (some 7), none⟩,
  ⟨.bin .geq (.tmp 7) (.const (.int .i64 0)), (some 8), none⟩,
  ⟨.move (.tmp 8), (some 4), none⟩]
def ir52 : AFn := ⟨9, [.tmp 4], (.seq (.ops o52_0) (.seq (.ops o52_1) .ret))⟩
theorem ir52_eq : fnsOf Try.prog 52 = some ir52 := by kernel_rfl

/-! F60 slices.Index[[]int,int] -/
def o60_0 : List AOper := [⟨.move (.const (.int .i64 0)), (some 4), none⟩]
def o60_1 : List AOper := [⟨.move (.tmp 0), (some 6), none⟩,
  ⟨.bu .len [(.tmp 6)], (some 7), none⟩,
  ⟨.move (.const (.int .i64 0)), (some 8), none⟩]
def o60_3 : List AOper := [⟨.bin .lss (.tmp 8) (.tmp 7), (some 9), none⟩]
def o60_4 : List AOper := [⟨.move (.tmp 8), (some 10), none⟩,
  ⟨.move (.tmp 10), (some 5), none⟩]
def o60_5 : List AOper := [⟨.move (.tmp 1), (some 11), none⟩,
  ⟨.move (.tmp 0), (some 12), none⟩,
  ⟨.move (.tmp 5), (some 13), none⟩,
  ⟨.addrSl 1 (.tmp 12) (.tmp 13), (some 14), none⟩,
  ⟨.load none (.tmp 14), (some 15), none⟩,
  ⟨.bin .eql (.tmp 11) (.tmp 15), (some 16), none⟩]
def o60_6 : List AOper := [⟨.move (.tmp 5), (some 17), none⟩,
  ⟨.move (.tmp 17), (some 4), none⟩]
def o60_7 : List AOper := [⟨.bin .add (.tmp 8) (.const (.int .i64 1)), (some 18), none⟩,
  ⟨.move (.tmp 18), (some 8), none⟩]
def b60_2 : ACode := (.seq (.ops o60_3) (.seq (.cond (.tmp 9) .skip (.exit 0)) (.seq (.block 1 (.seq (.ops o60_4) (.seq (.ops o60_5) (.cond (.tmp 16) (.seq (.ops o60_6) .ret) .skip)))) (.ops o60_7))))
def o60_8 : List AOper := [⟨.move (.const (.int .i64 (-1))), (some 4), none⟩]
def ir60 : AFn := ⟨19, [.tmp 4], (.seq (.ops o60_0) (.seq (.seq (.ops o60_1) (.block 0 (.loop b60_2))) (.seq (.ops o60_8) .ret)))⟩
theorem ir60_eq : fnsOf Try.prog 60 = some ir60 := by kernel_rfl


end Go.Proofs.Ytpphomoijlilfaa
