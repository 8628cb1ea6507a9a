/- The small machine's text of functions of the seat. -/
import Derived.Test.YtpphomoijlilfaaRows
import Derived.Test.YtpphomoijlilfaaVam25
import Derived.KernelRfl
namespace Go.Proofs.Ytpphomoijlilfaa
open Go Go.Vam
def o6_0 : List AOper := [⟨.move (.const (.bool false)), (some 6), none⟩]
def o6_1 : List AOper := [⟨.move (.tmp 1), (some 22), none⟩,
  ⟨.conv (.toInt .i64) (.tmp 22), (some 23), none⟩,
  ⟨.bin .rem (.tmp 23) (.const (.int .i64 20)), (some 24), none⟩,
  ⟨.bin .add (.tmp 24) (.const (.int .i64 1)), (some 25), none⟩,
  ⟨.move (.tmp 25), (some 7), none⟩]
def o6_2 : List AOper := [⟨.move (.tmp 0), (some 26), none⟩,
  ⟨.move (.tmp 7), (some 27), none⟩,
  ⟨.call (.func 25) [(.tmp 26), (.tmp 27)], (some 28), none⟩,
  ⟨.move (.tmp 28), (some 8), none⟩]
def o6_3 : List AOper := [⟨.move (.tmp 8), (some 29), none⟩,
  ⟨.move (.tmp 7), (some 30), none⟩,
  ⟨.call (.func 17) [(.tmp 29), (.tmp 30)], (some 31), none⟩,
  ⟨.move (.tmp 31), (some 9), none⟩]
def o6_4 : List AOper := [⟨.move (.tmp 9), (some 32), none⟩,
  ⟨.move (.tmp 7), (some 33), none⟩,
  ⟨.call (.func 26) [(.tmp 32), (.tmp 33)], (some 34), none⟩,
  ⟨.un .not (.tmp 34), (some 35), none⟩]
def o6_5 : List AOper := [⟨.move (.const (.bool false)), (some 6), none⟩]
def o6_6 : List AOper := [⟨.move (.const (.int .i64 0)), (some 10), none⟩]
def o6_7 : List AOper := [⟨.move (.const (.int .i64 0)), (some 11), none⟩]
def o6_9 : List AOper := [⟨.move (.tmp 11), (some 36), none⟩,
  ⟨.move (.tmp 9), (some 37), none⟩,
  ⟨.bu .len [(.tmp 37)], (some 38), none⟩,
  ⟨.bin .lss (.tmp 36) (.tmp 38), (some 39), none⟩]
def o6_10 : List AOper := [⟨.move (.tmp 10), (some 42), none⟩,
  ⟨.move (.tmp 9), (some 43), none⟩,
  ⟨.move (.tmp 11), (some 44), none⟩,
  ⟨.addrSl 1 (.tmp 43) (.tmp 44), (some 45), none⟩,
  ⟨.load none (.tmp 45), (some 46), none⟩,
  ⟨.bu .len [(.tmp 46)], (some 47), none⟩,
  ⟨.bin .add (.tmp 42) (.tmp 47), (some 48), none⟩,
  ⟨.move (.tmp 48), (some 10), none⟩]
def o6_11 : List AOper := [⟨.move (.tmp 11), (some 40), none⟩,
  ⟨.bin .add (.tmp 40) (.const (.int .i64 1)), (some 41), none⟩,
  ⟨.move (.tmp 41), (some 11), none⟩]
def b6_8 : ACode := (.seq (.seq (.ops o6_9) (.cond (.tmp 39) .skip (.exit 0))) (.seq (.block 1 (.ops o6_10)) (.ops o6_11)))
def o6_12 : List AOper := [⟨.move (.tmp 10), (some 49), none⟩,
  ⟨.move (.tmp 8), (some 50), none⟩,
  ⟨.bu .len [(.tmp 50)], (some 51), none⟩,
  ⟨.bin .neq (.tmp 49) (.tmp 51), (some 52), none⟩]
def o6_13 : List AOper := [⟨.move (.const (.bool false)), (some 6), none⟩]
def o6_14 : List AOper := [⟨.move (.tmp 2), (some 53), none⟩,
  ⟨.move (.tmp 7), (some 54), none⟩,
  ⟨.bin .rem (.tmp 53) (.tmp 54), (some 55), none⟩,
  ⟨.move (.tmp 7), (some 56), none⟩,
  ⟨.bin .add (.tmp 55) (.tmp 56), (some 57), none⟩,
  ⟨.move (.tmp 7), (some 58), none⟩,
  ⟨.bin .rem (.tmp 57) (.tmp 58), (some 59), none⟩,
  ⟨.move (.tmp 59), (some 2), none⟩]
def o6_15 : List AOper := [⟨.move (.const (.slice none 0 0)), (some 12), none⟩]
def o6_16 : List AOper := [⟨.move (.const (.int .i64 0)), (some 13), none⟩]
def o6_18 : List AOper := [⟨.move (.tmp 13), (some 60), none⟩,
  ⟨.move (.tmp 8), (some 61), none⟩,
  ⟨.bu .len [(.tmp 61)], (some 62), none⟩,
  ⟨.bin .lss (.tmp 60) (.tmp 62), (some 63), none⟩]
def o6_19 : List AOper := [⟨.move (.tmp 8), (some 66), none⟩,
  ⟨.move (.tmp 13), (some 67), none⟩,
  ⟨.addrSl 3 (.tmp 66) (.tmp 67), (some 68), none⟩,
  ⟨.load (some 3) (.tmp 68), (some 69), none⟩,
  ⟨.alloc 29 [(.int .i64 0), (.int .i64 0), (.float .f64 0)], (some 14), none⟩,
  ⟨.store 3 (.tmp 14) (.tmp 69), none, none⟩]
def o6_20 : List AOper := [⟨.fieldAddr 0 (.tmp 14), (some 70), none⟩,
  ⟨.load none (.tmp 70), (some 71), none⟩,
  ⟨.move (.tmp 2), (some 72), none⟩,
  ⟨.bin .add (.tmp 71) (.tmp 72), (some 73), none⟩,
  ⟨.move (.tmp 7), (some 74), none⟩,
  ⟨.bin .rem (.tmp 73) (.tmp 74), (some 75), none⟩,
  ⟨.fieldAddr 0 (.tmp 14), (some 76), none⟩,
  ⟨.store 1 (.tmp 76) (.tmp 75), none, none⟩]
def o6_21 : List AOper := [⟨.move (.tmp 12), (some 77), none⟩,
  ⟨.load (some 3) (.tmp 14), (some 78), none⟩,
  ⟨.buildSlice 29 3 [(.int .i64 0), (.int .i64 0), (.float .f64 0)] 1 [(0, (.tmp 78))], (some 79), none⟩,
  ⟨.append 29 24 3 [(.int .i64 0), (.int .i64 0), (.float .f64 0)] (.tmp 77) (.tmp 79), (some 80), none⟩,
  ⟨.move (.tmp 80), (some 12), none⟩]
def o6_22 : List AOper := [⟨.move (.tmp 13), (some 64), none⟩,
  ⟨.bin .add (.tmp 64) (.const (.int .i64 1)), (some 65), none⟩,
  ⟨.move (.tmp 65), (some 13), none⟩]
def b6_17 : ACode := (.seq (.seq (.ops o6_18) (.cond (.tmp 63) .skip (.exit 2))) (.seq (.block 3 (.seq (.ops o6_19) (.seq (.ops o6_20) (.ops o6_21)))) (.ops o6_22)))
def o6_23 : List AOper := [⟨.move (.tmp 12), (some 81), none⟩,
  ⟨.move (.tmp 7), (some 82), none⟩,
  ⟨.call (.func 17) [(.tmp 81), (.tmp 82)], (some 83), none⟩,
  ⟨.move (.tmp 83), (some 15), none⟩]
def o6_24 : List AOper := [⟨.move (.const (.int .i64 0)), (some 16), none⟩]
def o6_26 : List AOper := [⟨.move (.tmp 16), (some 84), none⟩,
  ⟨.move (.tmp 8), (some 85), none⟩,
  ⟨.bu .len [(.tmp 85)], (some 86), none⟩,
  ⟨.bin .lss (.tmp 84) (.tmp 86), (some 87), none⟩]
def d6_27 : List DOper := [⟨⟨.move (.tmp 9), (some 90), none⟩, 0⟩,
  ⟨⟨.move (.tmp 8), (some 91), none⟩, 0⟩,
  ⟨⟨.move (.tmp 16), (some 92), none⟩, 0⟩,
  ⟨⟨.addrSl 3 (.tmp 91) (.tmp 92), (some 93), none⟩, 6⟩,
  ⟨⟨.fieldAddr 0 (.tmp 93), (some 94), none⟩, 14⟩,
  ⟨⟨.load none (.tmp 94), (some 95), none⟩, 30⟩,
  ⟨⟨.move (.tmp 8), (some 96), none⟩, 0⟩,
  ⟨⟨.move (.tmp 16), (some 97), none⟩, 0⟩,
  ⟨⟨.addrSl 3 (.tmp 96) (.tmp 97), (some 98), none⟩, 192⟩,
  ⟨⟨.fieldAddr 1 (.tmp 98), (some 99), none⟩, 448⟩,
  ⟨⟨.load none (.tmp 99), (some 100), none⟩, 960⟩,
  ⟨⟨.call (.func 27) [(.tmp 90), (.tmp 95), (.tmp 100)], (some 101), none⟩, 2047⟩,
  ⟨⟨.move (.tmp 101), (some 17), none⟩, 4095⟩]
def d6_28 : List DOper := [⟨⟨.move (.tmp 15), (some 102), none⟩, 0⟩,
  ⟨⟨.move (.tmp 12), (some 103), none⟩, 0⟩,
  ⟨⟨.move (.tmp 16), (some 104), none⟩, 0⟩,
  ⟨⟨.addrSl 3 (.tmp 103) (.tmp 104), (some 105), none⟩, 6⟩,
  ⟨⟨.fieldAddr 0 (.tmp 105), (some 106), none⟩, 14⟩,
  ⟨⟨.load none (.tmp 106), (some 107), none⟩, 30⟩,
  ⟨⟨.move (.tmp 12), (some 108), none⟩, 0⟩,
  ⟨⟨.move (.tmp 16), (some 109), none⟩, 0⟩,
  ⟨⟨.addrSl 3 (.tmp 108) (.tmp 109), (some 110), none⟩, 192⟩,
  ⟨⟨.fieldAddr 1 (.tmp 110), (some 111), none⟩, 448⟩,
  ⟨⟨.load none (.tmp 111), (some 112), none⟩, 960⟩,
  ⟨⟨.call (.func 27) [(.tmp 102), (.tmp 107), (.tmp 112)], (some 113), none⟩, 2047⟩,
  ⟨⟨.move (.tmp 113), (some 18), none⟩, 4095⟩]
def d6_29 : List DOper := [⟨⟨.move (.tmp 17), (some 114), none⟩, 0⟩,
  ⟨⟨.bin .lss (.tmp 114) (.const (.int .i64 0)), (some 115), none⟩, 1⟩,
  ⟨⟨.move (.tmp 115), (some 116), none⟩, 3⟩,
  ⟨⟨.move (.tmp 18), (some 117), (some (116, false))⟩, 7⟩,
  ⟨⟨.bin .lss (.tmp 117) (.const (.int .i64 0)), (some 118), (some (116, false))⟩, 15⟩,
  ⟨⟨.pick (.tmp 116) (.const (.bool true)) (.tmp 118), (some 119), none⟩, 31⟩,
  ⟨⟨.move (.tmp 119), (some 120), none⟩, 63⟩,
  ⟨⟨.move (.tmp 15), (some 121), (some (120, false))⟩, 127⟩,
  ⟨⟨.bu .len [(.tmp 121)], (some 122), (some (120, false))⟩, 255⟩,
  ⟨⟨.move (.tmp 9), (some 123), (some (120, false))⟩, 127⟩,
  ⟨⟨.bu .len [(.tmp 123)], (some 124), (some (120, false))⟩, 639⟩,
  ⟨⟨.bin .neq (.tmp 122) (.tmp 124), (some 125), (some (120, false))⟩, 2047⟩,
  ⟨⟨.pick (.tmp 120) (.const (.bool true)) (.tmp 125), (some 126), none⟩, 4095⟩,
  ⟨⟨.move (.tmp 126), (some 127), none⟩, 8191⟩,
  ⟨⟨.move (.tmp 15), (some 128), (some (127, false))⟩, 16383⟩,
  ⟨⟨.move (.tmp 18), (some 129), (some (127, false))⟩, 16383⟩,
  ⟨⟨.addrSl 1 (.tmp 128) (.tmp 129), (some 130), (some (127, false))⟩, 65535⟩,
  ⟨⟨.load none (.tmp 130), (some 131), (some (127, false))⟩, 131071⟩,
  ⟨⟨.bu .len [(.tmp 131)], (some 132), (some (127, false))⟩, 262143⟩,
  ⟨⟨.move (.tmp 9), (some 133), (some (127, false))⟩, 16383⟩,
  ⟨⟨.move (.tmp 17), (some 134), (some (127, false))⟩, 16383⟩,
  ⟨⟨.addrSl 1 (.tmp 133) (.tmp 134), (some 135), (some (127, false))⟩, 1589247⟩,
  ⟨⟨.load none (.tmp 135), (some 136), (some (127, false))⟩, 3686399⟩,
  ⟨⟨.bu .len [(.tmp 136)], (some 137), (some (127, false))⟩, 7880703⟩,
  ⟨⟨.bin .neq (.tmp 132) (.tmp 137), (some 138), (some (127, false))⟩, 16777215⟩,
  ⟨⟨.pick (.tmp 127) (.const (.bool true)) (.tmp 138), (some 139), none⟩, 33554431⟩]
def o6_30 : List AOper := [⟨.move (.const (.bool false)), (some 6), none⟩]
def o6_31 : List AOper := [⟨.move (.const (.int .i64 0)), (some 19), none⟩]
def o6_33 : List AOper := [⟨.move (.tmp 19), (some 140), none⟩,
  ⟨.move (.tmp 8), (some 141), none⟩,
  ⟨.bu .len [(.tmp 141)], (some 142), none⟩,
  ⟨.bin .lss (.tmp 140) (.tmp 142), (some 143), none⟩]
def d6_34 : List DOper := [⟨⟨.move (.tmp 9), (some 146), none⟩, 0⟩,
  ⟨⟨.move (.tmp 8), (some 147), none⟩, 0⟩,
  ⟨⟨.move (.tmp 19), (some 148), none⟩, 0⟩,
  ⟨⟨.addrSl 3 (.tmp 147) (.tmp 148), (some 149), none⟩, 6⟩,
  ⟨⟨.fieldAddr 0 (.tmp 149), (some 150), none⟩, 14⟩,
  ⟨⟨.load none (.tmp 150), (some 151), none⟩, 30⟩,
  ⟨⟨.move (.tmp 8), (some 152), none⟩, 0⟩,
  ⟨⟨.move (.tmp 19), (some 153), none⟩, 0⟩,
  ⟨⟨.addrSl 3 (.tmp 152) (.tmp 153), (some 154), none⟩, 192⟩,
  ⟨⟨.fieldAddr 1 (.tmp 154), (some 155), none⟩, 448⟩,
  ⟨⟨.load none (.tmp 155), (some 156), none⟩, 960⟩,
  ⟨⟨.call (.func 27) [(.tmp 146), (.tmp 151), (.tmp 156)], (some 157), none⟩, 2047⟩,
  ⟨⟨.move (.tmp 17), (some 158), none⟩, 0⟩,
  ⟨⟨.bin .eql (.tmp 157) (.tmp 158), (some 159), none⟩, 8191⟩,
  ⟨⟨.move (.tmp 159), (some 20), none⟩, 16383⟩]
def d6_35 : List DOper := [⟨⟨.move (.tmp 15), (some 160), none⟩, 0⟩,
  ⟨⟨.move (.tmp 12), (some 161), none⟩, 0⟩,
  ⟨⟨.move (.tmp 19), (some 162), none⟩, 0⟩,
  ⟨⟨.addrSl 3 (.tmp 161) (.tmp 162), (some 163), none⟩, 6⟩,
  ⟨⟨.fieldAddr 0 (.tmp 163), (some 164), none⟩, 14⟩,
  ⟨⟨.load none (.tmp 164), (some 165), none⟩, 30⟩,
  ⟨⟨.move (.tmp 12), (some 166), none⟩, 0⟩,
  ⟨⟨.move (.tmp 19), (some 167), none⟩, 0⟩,
  ⟨⟨.addrSl 3 (.tmp 166) (.tmp 167), (some 168), none⟩, 192⟩,
  ⟨⟨.fieldAddr 1 (.tmp 168), (some 169), none⟩, 448⟩,
  ⟨⟨.load none (.tmp 169), (some 170), none⟩, 960⟩,
  ⟨⟨.call (.func 27) [(.tmp 160), (.tmp 165), (.tmp 170)], (some 171), none⟩, 2047⟩,
  ⟨⟨.move (.tmp 18), (some 172), none⟩, 0⟩,
  ⟨⟨.bin .eql (.tmp 171) (.tmp 172), (some 173), none⟩, 8191⟩,
  ⟨⟨.move (.tmp 173), (some 21), none⟩, 16383⟩]
def d6_36 : List DOper := [⟨⟨.move (.tmp 20), (some 174), none⟩, 0⟩,
  ⟨⟨.move (.tmp 21), (some 175), none⟩, 0⟩,
  ⟨⟨.eq true .bool (.tmp 174) (.tmp 175), (some 176), none⟩, 3⟩,
  ⟨⟨.move (.tmp 176), (some 177), none⟩, 7⟩,
  ⟨⟨.move (.tmp 20), (some 178), (some (177, false))⟩, 15⟩,
  ⟨⟨.un .not (.tmp 178), (some 179), (some (177, false))⟩, 31⟩,
  ⟨⟨.move (.tmp 179), (some 180), (some (177, false))⟩, 63⟩,
  ⟨⟨.move (.tmp 8), (some 181), (some (180, true))⟩, 127⟩,
  ⟨⟨.move (.tmp 16), (some 182), (some (180, true))⟩, 127⟩,
  ⟨⟨.addrSl 3 (.tmp 181) (.tmp 182), (some 183), (some (180, true))⟩, 511⟩,
  ⟨⟨.load (some 3) (.tmp 183), (some 184), (some (180, true))⟩, 1023⟩,
  ⟨⟨.move (.tmp 8), (some 185), (some (180, true))⟩, 127⟩,
  ⟨⟨.move (.tmp 19), (some 186), (some (180, true))⟩, 127⟩,
  ⟨⟨.addrSl 3 (.tmp 185) (.tmp 186), (some 187), (some (180, true))⟩, 6271⟩,
  ⟨⟨.load (some 3) (.tmp 187), (some 188), (some (180, true))⟩, 14463⟩,
  ⟨⟨.move (.tmp 7), (some 189), (some (180, true))⟩, 127⟩,
  ⟨⟨.call (.func 28) [(.tmp 184), (.tmp 188), (.tmp 189)], (some 190), (some (180, true))⟩, 65535⟩,
  ⟨⟨.pick (.tmp 180) (.tmp 190) (.const (.bool false)), (some 191), (some (177, false))⟩, 131071⟩,
  ⟨⟨.pick (.tmp 177) (.const (.bool true)) (.tmp 191), (some 192), none⟩, 262143⟩]
def o6_37 : List AOper := [⟨.move (.const (.bool false)), (some 6), none⟩]
def o6_38 : List AOper := [⟨.move (.tmp 19), (some 144), none⟩,
  ⟨.bin .add (.tmp 144) (.const (.int .i64 1)), (some 145), none⟩,
  ⟨.move (.tmp 145), (some 19), none⟩]
def b6_32 : ACode := (.seq (.seq (.ops o6_33) (.cond (.tmp 143) .skip (.exit 6))) (.seq (.block 7 (.seq (.draw d6_34) (.seq (.draw d6_35) (.seq (.draw d6_36) (.cond (.tmp 192) (.seq (.ops o6_37) .ret) .skip))))) (.ops o6_38)))
def o6_39 : List AOper := [⟨.move (.tmp 16), (some 88), none⟩,
  ⟨.bin .add (.tmp 88) (.const (.int .i64 1)), (some 89), none⟩,
  ⟨.move (.tmp 89), (some 16), none⟩]
def b6_25 : ACode := (.seq (.seq (.ops o6_26) (.cond (.tmp 87) .skip (.exit 4))) (.seq (.block 5 (.seq (.draw d6_27) (.seq (.draw d6_28) (.seq (.seq (.draw d6_29) (.cond (.tmp 139) (.seq (.ops o6_30) .ret) .skip)) (.seq (.ops o6_31) (.block 6 (.loop b6_32))))))) (.ops o6_39)))
def o6_40 : List AOper := [⟨.call (.func 15) [], (some 193), none⟩,
  ⟨.move (.tmp 193), (some 6), none⟩]
def ir6 : AFn := ⟨194, [.tmp 6], (.seq (.ops o6_0) (.seq (.ops o6_1) (.seq (.ops o6_2) (.seq (.ops o6_3) (.seq (.seq (.ops o6_4) (.cond (.tmp 35) (.seq (.ops o6_5) .ret) .skip)) (.seq (.ops o6_6) (.seq (.seq (.ops o6_7) (.block 0 (.loop b6_8))) (.seq (.seq (.ops o6_12) (.cond (.tmp 52) (.seq (.ops o6_13) .ret) .skip)) (.seq (.ops o6_14) (.seq (.ops o6_15) (.seq (.seq (.ops o6_16) (.block 2 (.loop b6_17))) (.seq (.ops o6_23) (.seq (.seq (.ops o6_24) (.block 4 (.loop b6_25))) (.seq (.ops o6_40) .ret))))))))))))))⟩
theorem ir6_eq : fnsOf Try.prog 6 = some ir6 := by kernel_rfl
def o25_0 : List AOper := [⟨.move (.const (.slice none 0 0)), (some 4), none⟩]
def o25_1 : List AOper := [⟨.move (.const (.slice none 0 0)), (some 5), none⟩]
def o25_2 : List AOper := [⟨.move (.const (.int .i64 0)), (some 6), none⟩]
def o25_4 : List AOper := [⟨.move (.tmp 6), (some 10), none⟩,
  ⟨.move (.tmp 0), (some 11), none⟩,
  ⟨.bu .len [(.tmp 11)], (some 12), none⟩,
  ⟨.bin .lss (.tmp 10) (.tmp 12), (some 13), none⟩,
  ⟨.move (.tmp 13), (some 14), none⟩,
  ⟨.move (.tmp 6), (some 15), (some (14, true))⟩,
  ⟨.bin .lss (.tmp 15) (.const (.int .i64 80)), (some 16), (some (14, true))⟩,
  ⟨.pick (.tmp 14) (.tmp 16) (.const (.bool false)), (some 17), none⟩]
def d25_5 : List DOper := [⟨⟨.move (.tmp 0), (some 20), none⟩, 0⟩,
  ⟨⟨.move (.tmp 6), (some 21), none⟩, 0⟩,
  ⟨⟨.addrSl 3 (.tmp 20) (.tmp 21), (some 22), none⟩, 3⟩,
  ⟨⟨.fieldAddr 0 (.tmp 22), (some 23), none⟩, 7⟩,
  ⟨⟨.load none (.tmp 23), (some 24), none⟩, 15⟩,
  ⟨⟨.move (.tmp 1), (some 25), none⟩, 0⟩,
  ⟨⟨.bin .rem (.tmp 24) (.tmp 25), (some 26), none⟩, 63⟩,
  ⟨⟨.move (.tmp 1), (some 27), none⟩, 0⟩,
  ⟨⟨.bin .add (.tmp 26) (.tmp 27), (some 28), none⟩, 255⟩,
  ⟨⟨.move (.tmp 1), (some 29), none⟩, 0⟩,
  ⟨⟨.bin .rem (.tmp 28) (.tmp 29), (some 30), none⟩, 1023⟩,
  ⟨⟨.move (.tmp 0), (some 31), none⟩, 0⟩,
  ⟨⟨.move (.tmp 6), (some 32), none⟩, 0⟩,
  ⟨⟨.addrSl 3 (.tmp 31) (.tmp 32), (some 33), none⟩, 6144⟩,
  ⟨⟨.fieldAddr 1 (.tmp 33), (some 34), none⟩, 14336⟩,
  ⟨⟨.load none (.tmp 34), (some 35), none⟩, 30720⟩,
  ⟨⟨.bin .rem (.tmp 35) (.const (.int .i64 12)), (some 36), none⟩, 63488⟩,
  ⟨⟨.bin .add (.tmp 36) (.const (.int .i64 12)), (some 37), none⟩, 129024⟩,
  ⟨⟨.bin .rem (.tmp 37) (.const (.int .i64 12)), (some 38), none⟩, 260096⟩,
  ⟨⟨.move (.tmp 0), (some 39), none⟩, 0⟩,
  ⟨⟨.move (.tmp 6), (some 40), none⟩, 0⟩,
  ⟨⟨.addrSl 3 (.tmp 39) (.tmp 40), (some 41), none⟩, 1572864⟩,
  ⟨⟨.fieldAddr 2 (.tmp 41), (some 42), none⟩, 3670016⟩,
  ⟨⟨.load none (.tmp 42), (some 43), none⟩, 7864320⟩,
  ⟨⟨.build [(.int .i64 0), (.int .i64 0), (.float .f64 0)] [(0, 1, (.tmp 30)), (1, 1, (.tmp 38)), (2, 1, (.tmp 43))], (some 44), none⟩, 16777215⟩,
  ⟨⟨.alloc 29 [(.int .i64 0), (.int .i64 0), (.float .f64 0)], (some 7), none⟩, 0⟩,
  ⟨⟨.store 3 (.tmp 7) (.tmp 44), none, none⟩, 67108863⟩]
def o25_6 : List AOper := [⟨.move (.const (.bool false)), (some 8), none⟩]
def o25_7 : List AOper := [⟨.move (.const (.int .i64 0)), (some 9), none⟩]
def o25_9 : List AOper := [⟨.move (.tmp 9), (some 45), none⟩,
  ⟨.move (.tmp 5), (some 46), none⟩,
  ⟨.bu .len [(.tmp 46)], (some 47), none⟩,
  ⟨.bin .lss (.tmp 45) (.tmp 47), (some 48), none⟩]
def d25_10 : List DOper := [⟨⟨.move (.tmp 8), (some 51), none⟩, 0⟩,
  ⟨⟨.move (.tmp 51), (some 52), none⟩, 1⟩,
  ⟨⟨.move (.tmp 5), (some 53), (some (52, false))⟩, 3⟩,
  ⟨⟨.move (.tmp 9), (some 54), (some (52, false))⟩, 3⟩,
  ⟨⟨.addrSl 3 (.tmp 53) (.tmp 54), (some 55), (some (52, false))⟩, 15⟩,
  ⟨⟨.fieldAddr 0 (.tmp 55), (some 56), (some (52, false))⟩, 31⟩,
  ⟨⟨.load none (.tmp 56), (some 57), (some (52, false))⟩, 63⟩,
  ⟨⟨.fieldAddr 0 (.tmp 7), (some 58), (some (52, false))⟩, 3⟩,
  ⟨⟨.load none (.tmp 58), (some 59), (some (52, false))⟩, 131⟩,
  ⟨⟨.bin .eql (.tmp 57) (.tmp 59), (some 60), (some (52, false))⟩, 511⟩,
  ⟨⟨.move (.tmp 60), (some 61), (some (52, false))⟩, 1023⟩,
  ⟨⟨.move (.tmp 5), (some 62), (some (61, true))⟩, 2047⟩,
  ⟨⟨.move (.tmp 9), (some 63), (some (61, true))⟩, 2047⟩,
  ⟨⟨.addrSl 3 (.tmp 62) (.tmp 63), (some 64), (some (61, true))⟩, 8191⟩,
  ⟨⟨.fieldAddr 1 (.tmp 64), (some 65), (some (61, true))⟩, 16383⟩,
  ⟨⟨.load none (.tmp 65), (some 66), (some (61, true))⟩, 32767⟩,
  ⟨⟨.fieldAddr 1 (.tmp 7), (some 67), (some (61, true))⟩, 2047⟩,
  ⟨⟨.load none (.tmp 67), (some 68), (some (61, true))⟩, 67583⟩,
  ⟨⟨.bin .eql (.tmp 66) (.tmp 68), (some 69), (some (61, true))⟩, 262143⟩,
  ⟨⟨.pick (.tmp 61) (.tmp 69) (.const (.bool false)), (some 70), (some (52, false))⟩, 524287⟩,
  ⟨⟨.pick (.tmp 52) (.const (.bool true)) (.tmp 70), (some 71), none⟩, 1048575⟩,
  ⟨⟨.move (.tmp 71), (some 8), none⟩, 2097151⟩]
def o25_11 : List AOper := [⟨.move (.tmp 9), (some 49), none⟩,
  ⟨.bin .add (.tmp 49) (.const (.int .i64 1)), (some 50), none⟩,
  ⟨.move (.tmp 50), (some 9), none⟩]
def b25_8 : ACode := (.seq (.seq (.ops o25_9) (.cond (.tmp 48) .skip (.exit 2))) (.seq (.block 3 (.draw d25_10)) (.ops o25_11)))
def o25_12 : List AOper := [⟨.move (.tmp 8), (some 72), none⟩,
  ⟨.un .not (.tmp 72), (some 73), none⟩]
def o25_13 : List AOper := [⟨.move (.tmp 5), (some 74), none⟩,
  ⟨.load (some 3) (.tmp 7), (some 75), none⟩,
  ⟨.buildSlice 29 3 [(.int .i64 0), (.int .i64 0), (.float .f64 0)] 1 [(0, (.tmp 75))], (some 76), none⟩,
  ⟨.append 29 24 3 [(.int .i64 0), (.int .i64 0), (.float .f64 0)] (.tmp 74) (.tmp 76), (some 77), none⟩,
  ⟨.move (.tmp 77), (some 5), none⟩]
def o25_14 : List AOper := [⟨.move (.tmp 6), (some 18), none⟩,
  ⟨.bin .add (.tmp 18) (.const (.int .i64 1)), (some 19), none⟩,
  ⟨.move (.tmp 19), (some 6), none⟩]
def b25_3 : ACode := (.seq (.seq (.ops o25_4) (.cond (.tmp 17) .skip (.exit 0))) (.seq (.block 1 (.seq (.draw d25_5) (.seq (.ops o25_6) (.seq (.seq (.ops o25_7) (.block 2 (.loop b25_8))) (.seq (.ops o25_12) (.cond (.tmp 73) (.ops o25_13) .skip)))))) (.ops o25_14)))
def o25_15 : List AOper := [⟨.move (.tmp 5), (some 78), none⟩,
  ⟨.move (.tmp 78), (some 4), none⟩]
def ir25 : AFn := ⟨79, [.tmp 4], (.seq (.ops o25_0) (.seq (.ops o25_1) (.seq (.seq (.ops o25_2) (.block 0 (.loop b25_3))) (.seq (.ops o25_15) .ret))))⟩
theorem ir25_eq : fnsOf Try.prog 25 = some ir25 := by kernel_rfl
def o26_0 : List AOper := [⟨.move (.const (.bool false)), (some 4), none⟩]
def o26_1 : List AOper := [⟨.move (.const (.int .i64 0)), (some 5), none⟩]
def o26_3 : List AOper := [⟨.move (.tmp 5), (some 11), none⟩,
  ⟨.move (.tmp 0), (some 12), none⟩,
  ⟨.bu .len [(.tmp 12)], (some 13), none⟩,
  ⟨.bin .lss (.tmp 11) (.tmp 13), (some 14), none⟩]
def d26_4 : List DOper := [⟨⟨.move (.tmp 0), (some 17), none⟩, 0⟩,
  ⟨⟨.move (.tmp 5), (some 18), none⟩, 0⟩,
  ⟨⟨.addrSl 1 (.tmp 17) (.tmp 18), (some 19), none⟩, 3⟩,
  ⟨⟨.load none (.tmp 19), (some 20), none⟩, 7⟩,
  ⟨⟨.bu .len [(.tmp 20)], (some 21), none⟩, 15⟩,
  ⟨⟨.bin .eql (.tmp 21) (.const (.int .i64 0)), (some 22), none⟩, 31⟩,
  ⟨⟨.move (.tmp 22), (some 23), none⟩, 63⟩,
  ⟨⟨.move (.tmp 5), (some 24), (some (23, false))⟩, 127⟩,
  ⟨⟨.bin .gtr (.tmp 24) (.const (.int .i64 0)), (some 25), (some (23, false))⟩, 255⟩,
  ⟨⟨.move (.tmp 25), (some 26), (some (23, false))⟩, 511⟩,
  ⟨⟨.move (.tmp 0), (some 27), (some (26, true))⟩, 1023⟩,
  ⟨⟨.move (.tmp 5), (some 28), (some (26, true))⟩, 1023⟩,
  ⟨⟨.bin .sub (.tmp 28) (.const (.int .i64 1)), (some 29), (some (26, true))⟩, 3071⟩,
  ⟨⟨.addrSl 1 (.tmp 27) (.tmp 29), (some 30), (some (26, true))⟩, 8191⟩,
  ⟨⟨.load none (.tmp 30), (some 31), (some (26, true))⟩, 16383⟩,
  ⟨⟨.addrSl 3 (.tmp 31) (.const (.int .i64 0)), (some 32), (some (26, true))⟩, 32767⟩,
  ⟨⟨.load (some 3) (.tmp 32), (some 33), (some (26, true))⟩, 65535⟩,
  ⟨⟨.move (.tmp 0), (some 34), (some (26, true))⟩, 1023⟩,
  ⟨⟨.move (.tmp 5), (some 35), (some (26, true))⟩, 1023⟩,
  ⟨⟨.addrSl 1 (.tmp 34) (.tmp 35), (some 36), (some (26, true))⟩, 394239⟩,
  ⟨⟨.load none (.tmp 36), (some 37), (some (26, true))⟩, 918527⟩,
  ⟨⟨.addrSl 3 (.tmp 37) (.const (.int .i64 0)), (some 38), (some (26, true))⟩, 1967103⟩,
  ⟨⟨.load (some 3) (.tmp 38), (some 39), (some (26, true))⟩, 4064255⟩,
  ⟨⟨.call (.func 29) [(.tmp 33), (.tmp 39)], (some 40), (some (26, true))⟩, 8388607⟩,
  ⟨⟨.un .not (.tmp 40), (some 41), (some (26, true))⟩, 16777215⟩,
  ⟨⟨.pick (.tmp 26) (.tmp 41) (.const (.bool false)), (some 42), (some (23, false))⟩, 33554431⟩,
  ⟨⟨.pick (.tmp 23) (.const (.bool true)) (.tmp 42), (some 43), none⟩, 67108863⟩]
def o26_5 : List AOper := [⟨.move (.const (.bool false)), (some 4), none⟩]
def o26_6 : List AOper := [⟨.move (.tmp 0), (some 44), none⟩,
  ⟨.move (.tmp 5), (some 45), none⟩,
  ⟨.addrSl 1 (.tmp 44) (.tmp 45), (some 46), none⟩,
  ⟨.load none (.tmp 46), (some 47), none⟩,
  ⟨.bu .len [(.tmp 47)], (some 48), none⟩,
  ⟨.makeSlice 4 1 1 [(.bool false)] (.tmp 48) (.tmp 48), (some 49), none⟩,
  ⟨.move (.tmp 49), (some 6), none⟩]
def o26_7 : List AOper := [⟨.move (.tmp 6), (some 50), none⟩,
  ⟨.addrSl 1 (.tmp 50) (.const (.int .i64 0)), (some 51), none⟩,
  ⟨.store 1 (.tmp 51) (.const (.bool true)), none, none⟩]
def o26_8 : List AOper := [⟨.move (.const (.int .i64 0)), (some 7), none⟩]
def o26_10 : List AOper := [⟨.move (.tmp 7), (some 52), none⟩,
  ⟨.move (.tmp 0), (some 53), none⟩,
  ⟨.move (.tmp 5), (some 54), none⟩,
  ⟨.addrSl 1 (.tmp 53) (.tmp 54), (some 55), none⟩,
  ⟨.load none (.tmp 55), (some 56), none⟩,
  ⟨.bu .len [(.tmp 56)], (some 57), none⟩,
  ⟨.bin .lss (.tmp 52) (.tmp 57), (some 58), none⟩]
def o26_11 : List AOper := [⟨.move (.const (.int .i64 0)), (some 8), none⟩]
def o26_13 : List AOper := [⟨.move (.tmp 8), (some 61), none⟩,
  ⟨.move (.tmp 0), (some 62), none⟩,
  ⟨.move (.tmp 5), (some 63), none⟩,
  ⟨.addrSl 1 (.tmp 62) (.tmp 63), (some 64), none⟩,
  ⟨.load none (.tmp 64), (some 65), none⟩,
  ⟨.bu .len [(.tmp 65)], (some 66), none⟩,
  ⟨.bin .lss (.tmp 61) (.tmp 66), (some 67), none⟩]
def o26_14 : List AOper := [⟨.move (.const (.int .i64 0)), (some 9), none⟩]
def o26_16 : List AOper := [⟨.move (.tmp 9), (some 70), none⟩,
  ⟨.move (.tmp 0), (some 71), none⟩,
  ⟨.move (.tmp 5), (some 72), none⟩,
  ⟨.addrSl 1 (.tmp 71) (.tmp 72), (some 73), none⟩,
  ⟨.load none (.tmp 73), (some 74), none⟩,
  ⟨.bu .len [(.tmp 74)], (some 75), none⟩,
  ⟨.bin .lss (.tmp 70) (.tmp 75), (some 76), none⟩]
def d26_17 : List DOper := [⟨⟨.move (.tmp 6), (some 79), none⟩, 0⟩,
  ⟨⟨.move (.tmp 9), (some 80), none⟩, 0⟩,
  ⟨⟨.move (.tmp 6), (some 81), none⟩, 0⟩,
  ⟨⟨.move (.tmp 9), (some 82), none⟩, 0⟩,
  ⟨⟨.addrSl 1 (.tmp 81) (.tmp 82), (some 83), none⟩, 12⟩,
  ⟨⟨.load none (.tmp 83), (some 84), none⟩, 28⟩,
  ⟨⟨.move (.tmp 84), (some 85), none⟩, 60⟩,
  ⟨⟨.move (.tmp 6), (some 86), (some (85, false))⟩, 124⟩,
  ⟨⟨.move (.tmp 8), (some 87), (some (85, false))⟩, 124⟩,
  ⟨⟨.addrSl 1 (.tmp 86) (.tmp 87), (some 88), (some (85, false))⟩, 508⟩,
  ⟨⟨.load none (.tmp 88), (some 89), (some (85, false))⟩, 1020⟩,
  ⟨⟨.move (.tmp 89), (some 90), (some (85, false))⟩, 2044⟩,
  ⟨⟨.move (.tmp 0), (some 91), (some (90, true))⟩, 4092⟩,
  ⟨⟨.move (.tmp 5), (some 92), (some (90, true))⟩, 4092⟩,
  ⟨⟨.addrSl 1 (.tmp 91) (.tmp 92), (some 93), (some (90, true))⟩, 16380⟩,
  ⟨⟨.load none (.tmp 93), (some 94), (some (90, true))⟩, 32764⟩,
  ⟨⟨.move (.tmp 8), (some 95), (some (90, true))⟩, 4092⟩,
  ⟨⟨.addrSl 3 (.tmp 94) (.tmp 95), (some 96), (some (90, true))⟩, 131068⟩,
  ⟨⟨.load (some 3) (.tmp 96), (some 97), (some (90, true))⟩, 262140⟩,
  ⟨⟨.move (.tmp 0), (some 98), (some (90, true))⟩, 4092⟩,
  ⟨⟨.move (.tmp 5), (some 99), (some (90, true))⟩, 4092⟩,
  ⟨⟨.addrSl 1 (.tmp 98) (.tmp 99), (some 100), (some (90, true))⟩, 1576956⟩,
  ⟨⟨.load none (.tmp 100), (some 101), (some (90, true))⟩, 3674108⟩,
  ⟨⟨.move (.tmp 9), (some 102), (some (90, true))⟩, 4092⟩,
  ⟨⟨.addrSl 3 (.tmp 101) (.tmp 102), (some 103), (some (90, true))⟩, 16257020⟩,
  ⟨⟨.load (some 3) (.tmp 103), (some 104), (some (90, true))⟩, 33034236⟩,
  ⟨⟨.move (.tmp 1), (some 105), (some (90, true))⟩, 4092⟩,
  ⟨⟨.call (.func 28) [(.tmp 97), (.tmp 104), (.tmp 105)], (some 106), (some (90, true))⟩, 134217724⟩,
  ⟨⟨.pick (.tmp 90) (.tmp 106) (.const (.bool false)), (some 107), (some (85, false))⟩, 268435452⟩,
  ⟨⟨.pick (.tmp 85) (.const (.bool true)) (.tmp 107), (some 108), none⟩, 536870908⟩,
  ⟨⟨.addrSl 1 (.tmp 79) (.tmp 80), (some 109), none⟩, 1073741823⟩,
  ⟨⟨.store 1 (.tmp 109) (.tmp 108), none, none⟩, 2147483647⟩]
def o26_18 : List AOper := [⟨.move (.tmp 9), (some 77), none⟩,
  ⟨.bin .add (.tmp 77) (.const (.int .i64 1)), (some 78), none⟩,
  ⟨.move (.tmp 78), (some 9), none⟩]
def b26_15 : ACode := (.seq (.seq (.ops o26_16) (.cond (.tmp 76) .skip (.exit 6))) (.seq (.block 7 (.draw d26_17)) (.ops o26_18)))
def o26_19 : List AOper := [⟨.move (.tmp 8), (some 68), none⟩,
  ⟨.bin .add (.tmp 68) (.const (.int .i64 1)), (some 69), none⟩,
  ⟨.move (.tmp 69), (some 8), none⟩]
def b26_12 : ACode := (.seq (.seq (.ops o26_13) (.cond (.tmp 67) .skip (.exit 4))) (.seq (.block 5 (.seq (.ops o26_14) (.block 6 (.loop b26_15)))) (.ops o26_19)))
def o26_20 : List AOper := [⟨.move (.tmp 7), (some 59), none⟩,
  ⟨.bin .add (.tmp 59) (.const (.int .i64 1)), (some 60), none⟩,
  ⟨.move (.tmp 60), (some 7), none⟩]
def b26_9 : ACode := (.seq (.seq (.ops o26_10) (.cond (.tmp 58) .skip (.exit 2))) (.seq (.block 3 (.seq (.ops o26_11) (.block 4 (.loop b26_12)))) (.ops o26_20)))
def o26_21 : List AOper := [⟨.move (.const (.int .i64 0)), (some 10), none⟩]
def o26_23 : List AOper := [⟨.move (.tmp 10), (some 110), none⟩,
  ⟨.move (.tmp 0), (some 111), none⟩,
  ⟨.move (.tmp 5), (some 112), none⟩,
  ⟨.addrSl 1 (.tmp 111) (.tmp 112), (some 113), none⟩,
  ⟨.load none (.tmp 113), (some 114), none⟩,
  ⟨.bu .len [(.tmp 114)], (some 115), none⟩,
  ⟨.bin .lss (.tmp 110) (.tmp 115), (some 116), none⟩]
def d26_24 : List DOper := [⟨⟨.move (.tmp 6), (some 119), none⟩, 0⟩,
  ⟨⟨.move (.tmp 10), (some 120), none⟩, 0⟩,
  ⟨⟨.addrSl 1 (.tmp 119) (.tmp 120), (some 121), none⟩, 3⟩,
  ⟨⟨.load none (.tmp 121), (some 122), none⟩, 7⟩,
  ⟨⟨.un .not (.tmp 122), (some 123), none⟩, 15⟩,
  ⟨⟨.move (.tmp 123), (some 124), none⟩, 31⟩,
  ⟨⟨.move (.tmp 10), (some 125), (some (124, false))⟩, 63⟩,
  ⟨⟨.bin .gtr (.tmp 125) (.const (.int .i64 0)), (some 126), (some (124, false))⟩, 127⟩,
  ⟨⟨.move (.tmp 126), (some 127), (some (124, false))⟩, 255⟩,
  ⟨⟨.move (.tmp 0), (some 128), (some (127, true))⟩, 511⟩,
  ⟨⟨.move (.tmp 5), (some 129), (some (127, true))⟩, 511⟩,
  ⟨⟨.addrSl 1 (.tmp 128) (.tmp 129), (some 130), (some (127, true))⟩, 2047⟩,
  ⟨⟨.load none (.tmp 130), (some 131), (some (127, true))⟩, 4095⟩,
  ⟨⟨.move (.tmp 10), (some 132), (some (127, true))⟩, 511⟩,
  ⟨⟨.bin .sub (.tmp 132) (.const (.int .i64 1)), (some 133), (some (127, true))⟩, 8703⟩,
  ⟨⟨.addrSl 3 (.tmp 131) (.tmp 133), (some 134), (some (127, true))⟩, 32767⟩,
  ⟨⟨.load (some 3) (.tmp 134), (some 135), (some (127, true))⟩, 65535⟩,
  ⟨⟨.move (.tmp 0), (some 136), (some (127, true))⟩, 511⟩,
  ⟨⟨.move (.tmp 5), (some 137), (some (127, true))⟩, 511⟩,
  ⟨⟨.addrSl 1 (.tmp 136) (.tmp 137), (some 138), (some (127, true))⟩, 393727⟩,
  ⟨⟨.load none (.tmp 138), (some 139), (some (127, true))⟩, 918015⟩,
  ⟨⟨.move (.tmp 10), (some 140), (some (127, true))⟩, 511⟩,
  ⟨⟨.addrSl 3 (.tmp 139) (.tmp 140), (some 141), (some (127, true))⟩, 4063743⟩,
  ⟨⟨.load (some 3) (.tmp 141), (some 142), (some (127, true))⟩, 8258047⟩,
  ⟨⟨.call (.func 29) [(.tmp 135), (.tmp 142)], (some 143), (some (127, true))⟩, 16777215⟩,
  ⟨⟨.un .not (.tmp 143), (some 144), (some (127, true))⟩, 33554431⟩,
  ⟨⟨.pick (.tmp 127) (.tmp 144) (.const (.bool false)), (some 145), (some (124, false))⟩, 67108863⟩,
  ⟨⟨.pick (.tmp 124) (.const (.bool true)) (.tmp 145), (some 146), none⟩, 134217727⟩]
def o26_25 : List AOper := [⟨.move (.const (.bool false)), (some 4), none⟩]
def o26_26 : List AOper := [⟨.move (.tmp 10), (some 117), none⟩,
  ⟨.bin .add (.tmp 117) (.const (.int .i64 1)), (some 118), none⟩,
  ⟨.move (.tmp 118), (some 10), none⟩]
def b26_22 : ACode := (.seq (.seq (.ops o26_23) (.cond (.tmp 116) .skip (.exit 8))) (.seq (.block 9 (.seq (.draw d26_24) (.cond (.tmp 146) (.seq (.ops o26_25) .ret) .skip))) (.ops o26_26)))
def o26_27 : List AOper := [⟨.move (.tmp 5), (some 15), none⟩,
  ⟨.bin .add (.tmp 15) (.const (.int .i64 1)), (some 16), none⟩,
  ⟨.move (.tmp 16), (some 5), none⟩]
def b26_2 : ACode := (.seq (.seq (.ops o26_3) (.cond (.tmp 14) .skip (.exit 0))) (.seq (.block 1 (.seq (.seq (.draw d26_4) (.cond (.tmp 43) (.seq (.ops o26_5) .ret) .skip)) (.seq (.ops o26_6) (.seq (.ops o26_7) (.seq (.seq (.ops o26_8) (.block 2 (.loop b26_9))) (.seq (.ops o26_21) (.block 8 (.loop b26_22)))))))) (.ops o26_27)))
def o26_28 : List AOper := [⟨.move (.const (.bool true)), (some 4), none⟩]
def ir26 : AFn := ⟨147, [.tmp 4], (.seq (.ops o26_0) (.seq (.seq (.ops o26_1) (.block 0 (.loop b26_2))) (.seq (.ops o26_28) .ret)))⟩
theorem ir26_eq : fnsOf Try.prog 26 = some ir26 := by kernel_rfl
def o27_0 : List AOper := [⟨.move (.const (.int .i64 0)), (some 6), none⟩]
def o27_1 : List AOper := [⟨.move (.const (.int .i64 (-1))), (some 7), none⟩]
def o27_2 : List AOper := [⟨.move (.const (.int .i64 0)), (some 8), none⟩]
def o27_4 : List AOper := [⟨.move (.tmp 8), (some 10), none⟩,
  ⟨.move (.tmp 0), (some 11), none⟩,
  ⟨.bu .len [(.tmp 11)], (some 12), none⟩,
  ⟨.bin .lss (.tmp 10) (.tmp 12), (some 13), none⟩]
def o27_5 : List AOper := [⟨.move (.const (.int .i64 0)), (some 9), none⟩]
def o27_7 : List AOper := [⟨.move (.tmp 9), (some 16), none⟩,
  ⟨.move (.tmp 0), (some 17), none⟩,
  ⟨.move (.tmp 8), (some 18), none⟩,
  ⟨.addrSl 1 (.tmp 17) (.tmp 18), (some 19), none⟩,
  ⟨.load none (.tmp 19), (some 20), none⟩,
  ⟨.bu .len [(.tmp 20)], (some 21), none⟩,
  ⟨.bin .lss (.tmp 16) (.tmp 21), (some 22), none⟩]
def o27_8 : List AOper := [⟨.move (.tmp 0), (some 25), none⟩,
  ⟨.move (.tmp 8), (some 26), none⟩,
  ⟨.addrSl 1 (.tmp 25) (.tmp 26), (some 27), none⟩,
  ⟨.load none (.tmp 27), (some 28), none⟩,
  ⟨.move (.tmp 9), (some 29), none⟩,
  ⟨.addrSl 3 (.tmp 28) (.tmp 29), (some 30), none⟩,
  ⟨.fieldAddr 0 (.tmp 30), (some 31), none⟩,
  ⟨.load none (.tmp 31), (some 32), none⟩,
  ⟨.move (.tmp 1), (some 33), none⟩,
  ⟨.bin .neq (.tmp 32) (.tmp 33), (some 34), none⟩,
  ⟨.move (.tmp 34), (some 35), none⟩,
  ⟨.move (.tmp 0), (some 36), (some (35, false))⟩,
  ⟨.move (.tmp 8), (some 37), (some (35, false))⟩,
  ⟨.addrSl 1 (.tmp 36) (.tmp 37), (some 38), (some (35, false))⟩,
  ⟨.load none (.tmp 38), (some 39), (some (35, false))⟩,
  ⟨.move (.tmp 9), (some 40), (some (35, false))⟩,
  ⟨.addrSl 3 (.tmp 39) (.tmp 40), (some 41), (some (35, false))⟩,
  ⟨.fieldAddr 1 (.tmp 41), (some 42), (some (35, false))⟩,
  ⟨.load none (.tmp 42), (some 43), (some (35, false))⟩,
  ⟨.move (.tmp 2), (some 44), (some (35, false))⟩,
  ⟨.bin .neq (.tmp 43) (.tmp 44), (some 45), (some (35, false))⟩,
  ⟨.pick (.tmp 35) (.const (.bool true)) (.tmp 45), (some 46), none⟩]
def o27_9 : List AOper := [⟨.move (.tmp 7), (some 47), none⟩,
  ⟨.bin .neq (.tmp 47) (.const (.int .i64 (-1))), (some 48), none⟩]
def o27_10 : List AOper := [⟨.move (.const (.int .i64 (-2))), (some 6), none⟩]
def o27_11 : List AOper := [⟨.move (.tmp 8), (some 49), none⟩,
  ⟨.move (.tmp 49), (some 7), none⟩]
def o27_12 : List AOper := [⟨.move (.tmp 9), (some 23), none⟩,
  ⟨.bin .add (.tmp 23) (.const (.int .i64 1)), (some 24), none⟩,
  ⟨.move (.tmp 24), (some 9), none⟩]
def b27_6 : ACode := (.seq (.seq (.ops o27_7) (.cond (.tmp 22) .skip (.exit 2))) (.seq (.block 3 (.seq (.seq (.ops o27_8) (.cond (.tmp 46) (.exit 3) .skip)) (.seq (.seq (.ops o27_9) (.cond (.tmp 48) (.seq (.ops o27_10) .ret) .skip)) (.ops o27_11)))) (.ops o27_12)))
def o27_13 : List AOper := [⟨.move (.tmp 8), (some 14), none⟩,
  ⟨.bin .add (.tmp 14) (.const (.int .i64 1)), (some 15), none⟩,
  ⟨.move (.tmp 15), (some 8), none⟩]
def b27_3 : ACode := (.seq (.seq (.ops o27_4) (.cond (.tmp 13) .skip (.exit 0))) (.seq (.block 1 (.seq (.ops o27_5) (.block 2 (.loop b27_6)))) (.ops o27_13)))
def o27_14 : List AOper := [⟨.move (.tmp 7), (some 50), none⟩,
  ⟨.move (.tmp 50), (some 6), none⟩]
def ir27 : AFn := ⟨51, [.tmp 6], (.seq (.ops o27_0) (.seq (.ops o27_1) (.seq (.seq (.ops o27_2) (.block 0 (.loop b27_3))) (.seq (.ops o27_14) .ret))))⟩
theorem ir27_eq : fnsOf Try.prog 27 = some ir27 := by kernel_rfl
end Go.Proofs.Ytpphomoijlilfaa
