/- The small machine's text of functions of the seat. -/
import Derived.Test.YtfjdihfflghfpaaRows
import Derived.Test.YtfjdihfflghfpaaVam25
import Derived.KernelRfl
namespace Go.Proofs.Ytfjdihfflghfpaa
open Go Go.Vam

/-! F7 lookout/lookoutlaw14.CfarMore -/
def o7_0 : List AOper := [⟨.box 26 (.tmp 1), (some 5), none⟩,
  ⟨.move (.const (.bool false)), (some 8), none⟩]
def o7_1 : List AOper := [⟨.call (.func 10) [], (some 24), none⟩,
  ⟨.un .not (.tmp 24), (some 25), none⟩,
  ⟨.move (.tmp 25), (some 26), none⟩,
  ⟨.move (.tmp 0), (some 27), (some (26, false))⟩,
  ⟨.load (some 5) (.tmp 5), (some 28), (some (26, false))⟩,
  ⟨.call (.func 28) [(.tmp 27), (.tmp 28)], (some 29), (some (26, false))⟩,
  ⟨.un .not (.tmp 29), (some 30), (some (26, false))⟩,
  ⟨.pick (.tmp 26) (.const (.bool true)) (.tmp 30), (some 31), none⟩]
def o7_2 : List AOper := [⟨.call (.func 10) [], (some 32), none⟩,
  ⟨.move (.tmp 32), (some 8), none⟩]
def o7_3 : List AOper := [⟨.move (.tmp 0), (some 34), none⟩,
  ⟨.fieldAddr 0 (.tmp 5), (some 35), none⟩,
  ⟨.load none (.tmp 35), (some 36), none⟩,
  ⟨.fieldAddr 1 (.tmp 5), (some 37), none⟩,
  ⟨.load none (.tmp 37), (some 38), none⟩,
  ⟨.fieldAddr 2 (.tmp 5), (some 39), none⟩,
  ⟨.load none (.tmp 39), (some 40), none⟩,
  ⟨.fieldAddr 3 (.tmp 5), (some 41), none⟩,
  ⟨.load none (.tmp 41), (some 42), none⟩,
  ⟨.fieldAddr 4 (.tmp 5), (some 43), none⟩,
  ⟨.load none (.tmp 43), (some 44), none⟩,
  ⟨.call (.func 16) [(.tmp 34), (.tmp 36), (.tmp 38), (.tmp 40), (.tmp 42), (.tmp 44)], (some 45), none⟩,
  ⟨.move (.tmp 45), (some 33), none⟩,
  ⟨.extract (.tmp 33) 0, (some 46), none⟩,
  ⟨.extract (.tmp 33) 1, (some 47), none⟩,
  ⟨.move (.tmp 46), (some 9), none⟩,
  ⟨.move (.tmp 47), (some 10), none⟩]
def o7_4 : List AOper := [⟨.move (.tmp 10), (some 48), none⟩,
  ⟨.bin .neq (.tmp 48) (.const (.int .i64 0)), (some 49), none⟩,
  ⟨.move (.tmp 49), (some 50), none⟩,
  ⟨.move (.tmp 9), (some 51), (some (50, false))⟩,
  ⟨.bu .len [(.tmp 51)], (some 52), (some (50, false))⟩,
  ⟨.move (.tmp 0), (some 53), (some (50, false))⟩,
  ⟨.bu .len [(.tmp 53)], (some 54), (some (50, false))⟩,
  ⟨.bin .neq (.tmp 52) (.tmp 54), (some 55), (some (50, false))⟩,
  ⟨.pick (.tmp 50) (.const (.bool true)) (.tmp 55), (some 56), none⟩]
def o7_5 : List AOper := [⟨.move (.const (.bool false)), (some 8), none⟩]
def o7_6 : List AOper := [⟨.move (.tmp 2), (some 57), none⟩,
  ⟨.bin .geq (.tmp 57) (.const (.int .i64 0)), (some 58), none⟩,
  ⟨.move (.tmp 58), (some 59), none⟩,
  ⟨.move (.tmp 2), (some 60), (some (59, true))⟩,
  ⟨.move (.tmp 0), (some 61), (some (59, true))⟩,
  ⟨.bu .len [(.tmp 61)], (some 62), (some (59, true))⟩,
  ⟨.bin .lss (.tmp 60) (.tmp 62), (some 63), (some (59, true))⟩,
  ⟨.pick (.tmp 59) (.tmp 63) (.const (.bool false)), (some 64), none⟩,
  ⟨.move (.tmp 64), (some 65), none⟩,
  ⟨.move (.tmp 9), (some 66), (some (65, true))⟩,
  ⟨.move (.tmp 2), (some 67), (some (65, true))⟩,
  ⟨.addrSl 1 (.tmp 66) (.tmp 67), (some 68), (some (65, true))⟩,
  ⟨.load none (.tmp 68), (some 69), (some (65, true))⟩,
  ⟨.pick (.tmp 65) (.tmp 69) (.const (.bool false)), (some 70), none⟩,
  ⟨.move (.tmp 70), (some 71), none⟩,
  ⟨.move (.tmp 3), (some 72), (some (71, true))⟩,
  ⟨.move (.tmp 0), (some 73), (some (71, true))⟩,
  ⟨.move (.tmp 2), (some 74), (some (71, true))⟩,
  ⟨.addrSl 1 (.tmp 73) (.tmp 74), (some 75), (some (71, true))⟩,
  ⟨.load none (.tmp 75), (some 76), (some (71, true))⟩,
  ⟨.bin .geq (.tmp 72) (.tmp 76), (some 77), (some (71, true))⟩,
  ⟨.pick (.tmp 71) (.tmp 77) (.const (.bool false)), (some 78), none⟩]
def o7_7 : List AOper := [⟨.move (.tmp 0), (some 79), none⟩,
  ⟨.append 24 8 1 [(.float .f64 0)] (.const (.slice none 0 0)) (.tmp 79), (some 80), none⟩,
  ⟨.move (.tmp 80), (some 11), none⟩]
def o7_8 : List AOper := [⟨.move (.tmp 11), (some 81), none⟩,
  ⟨.move (.tmp 2), (some 82), none⟩,
  ⟨.move (.tmp 3), (some 83), none⟩,
  ⟨.addrSl 1 (.tmp 81) (.tmp 82), (some 84), none⟩,
  ⟨.store 1 (.tmp 84) (.tmp 83), none, none⟩]
def o7_9 : List AOper := [⟨.move (.tmp 11), (some 86), none⟩,
  ⟨.fieldAddr 0 (.tmp 5), (some 87), none⟩,
  ⟨.load none (.tmp 87), (some 88), none⟩,
  ⟨.fieldAddr 1 (.tmp 5), (some 89), none⟩,
  ⟨.load none (.tmp 89), (some 90), none⟩,
  ⟨.fieldAddr 2 (.tmp 5), (some 91), none⟩,
  ⟨.load none (.tmp 91), (some 92), none⟩,
  ⟨.fieldAddr 3 (.tmp 5), (some 93), none⟩,
  ⟨.load none (.tmp 93), (some 94), none⟩,
  ⟨.fieldAddr 4 (.tmp 5), (some 95), none⟩,
  ⟨.load none (.tmp 95), (some 96), none⟩,
  ⟨.call (.func 16) [(.tmp 86), (.tmp 88), (.tmp 90), (.tmp 92), (.tmp 94), (.tmp 96)], (some 97), none⟩,
  ⟨.move (.tmp 97), (some 85), none⟩,
  ⟨.extract (.tmp 85) 0, (some 98), none⟩,
  ⟨.extract (.tmp 85) 1, (some 99), none⟩,
  ⟨.move (.tmp 98), (some 12), none⟩,
  ⟨.move (.tmp 99), (some 13), none⟩]
def o7_10 : List AOper := [⟨.move (.tmp 13), (some 100), none⟩,
  ⟨.bin .neq (.tmp 100) (.const (.int .i64 0)), (some 101), none⟩,
  ⟨.move (.tmp 101), (some 102), none⟩,
  ⟨.move (.tmp 12), (some 103), (some (102, false))⟩,
  ⟨.bu .len [(.tmp 103)], (some 104), (some (102, false))⟩,
  ⟨.move (.tmp 0), (some 105), (some (102, false))⟩,
  ⟨.bu .len [(.tmp 105)], (some 106), (some (102, false))⟩,
  ⟨.bin .neq (.tmp 104) (.tmp 106), (some 107), (some (102, false))⟩,
  ⟨.pick (.tmp 102) (.const (.bool true)) (.tmp 107), (some 108), none⟩,
  ⟨.move (.tmp 108), (some 109), none⟩,
  ⟨.move (.tmp 12), (some 110), (some (109, false))⟩,
  ⟨.move (.tmp 2), (some 111), (some (109, false))⟩,
  ⟨.addrSl 1 (.tmp 110) (.tmp 111), (some 112), (some (109, false))⟩,
  ⟨.load none (.tmp 112), (some 113), (some (109, false))⟩,
  ⟨.un .not (.tmp 113), (some 114), (some (109, false))⟩,
  ⟨.pick (.tmp 109) (.const (.bool true)) (.tmp 114), (some 115), none⟩]
def o7_11 : List AOper := [⟨.move (.const (.bool false)), (some 8), none⟩]
def o7_12 : List AOper := [⟨.move (.func 29), (some 14), none⟩]
def o7_13 : List AOper := [⟨.move (.tmp 0), (some 116), none⟩,
  ⟨.move (.tmp 14), (some 117), none⟩,
  ⟨.call (.func 31) [(.tmp 116), (.tmp 117)], (some 118), none⟩,
  ⟨.un .not (.tmp 118), (some 119), none⟩,
  ⟨.move (.tmp 119), (some 120), none⟩,
  ⟨.fieldAddr 4 (.tmp 5), (some 121), (some (120, false))⟩,
  ⟨.load none (.tmp 121), (some 122), (some (120, false))⟩,
  ⟨.bin .lss (.tmp 122) (.const (.float .f64 0)), (some 123), (some (120, false))⟩,
  ⟨.pick (.tmp 120) (.const (.bool true)) (.tmp 123), (some 124), none⟩]
def o7_14 : List AOper := [⟨.move (.const (.bool true)), (some 8), none⟩]
def o7_15 : List AOper := [⟨.move (.tmp 0), (some 126), none⟩,
  ⟨.fieldAddr 1 (.tmp 5), (some 127), none⟩,
  ⟨.load none (.tmp 127), (some 128), none⟩,
  ⟨.fieldAddr 2 (.tmp 5), (some 129), none⟩,
  ⟨.load none (.tmp 129), (some 130), none⟩,
  ⟨.fieldAddr 3 (.tmp 5), (some 131), none⟩,
  ⟨.load none (.tmp 131), (some 132), none⟩,
  ⟨.fieldAddr 4 (.tmp 5), (some 133), none⟩,
  ⟨.load none (.tmp 133), (some 134), none⟩,
  ⟨.call (.func 16) [(.tmp 126), (.const (.int .i8 1)), (.tmp 128), (.tmp 130), (.tmp 132), (.tmp 134)], (some 135), none⟩,
  ⟨.move (.tmp 135), (some 125), none⟩,
  ⟨.extract (.tmp 125) 0, (some 136), none⟩,
  ⟨.extract (.tmp 125) 1, (some 137), none⟩,
  ⟨.move (.tmp 136), (some 15), none⟩,
  ⟨.move (.tmp 137), (some 16), none⟩]
def o7_16 : List AOper := [⟨.move (.tmp 0), (some 139), none⟩,
  ⟨.fieldAddr 1 (.tmp 5), (some 140), none⟩,
  ⟨.load none (.tmp 140), (some 141), none⟩,
  ⟨.fieldAddr 2 (.tmp 5), (some 142), none⟩,
  ⟨.load none (.tmp 142), (some 143), none⟩,
  ⟨.fieldAddr 3 (.tmp 5), (some 144), none⟩,
  ⟨.load none (.tmp 144), (some 145), none⟩,
  ⟨.fieldAddr 4 (.tmp 5), (some 146), none⟩,
  ⟨.load none (.tmp 146), (some 147), none⟩,
  ⟨.call (.func 16) [(.tmp 139), (.const (.int .i8 0)), (.tmp 141), (.tmp 143), (.tmp 145), (.tmp 147)], (some 148), none⟩,
  ⟨.move (.tmp 148), (some 138), none⟩,
  ⟨.extract (.tmp 138) 0, (some 149), none⟩,
  ⟨.extract (.tmp 138) 1, (some 150), none⟩,
  ⟨.move (.tmp 149), (some 17), none⟩,
  ⟨.move (.tmp 150), (some 18), none⟩]
def o7_17 : List AOper := [⟨.move (.tmp 0), (some 152), none⟩,
  ⟨.fieldAddr 1 (.tmp 5), (some 153), none⟩,
  ⟨.load none (.tmp 153), (some 154), none⟩,
  ⟨.fieldAddr 2 (.tmp 5), (some 155), none⟩,
  ⟨.load none (.tmp 155), (some 156), none⟩,
  ⟨.fieldAddr 3 (.tmp 5), (some 157), none⟩,
  ⟨.load none (.tmp 157), (some 158), none⟩,
  ⟨.fieldAddr 4 (.tmp 5), (some 159), none⟩,
  ⟨.load none (.tmp 159), (some 160), none⟩,
  ⟨.call (.func 16) [(.tmp 152), (.const (.int .i8 2)), (.tmp 154), (.tmp 156), (.tmp 158), (.tmp 160)], (some 161), none⟩,
  ⟨.move (.tmp 161), (some 151), none⟩,
  ⟨.extract (.tmp 151) 0, (some 162), none⟩,
  ⟨.extract (.tmp 151) 1, (some 163), none⟩,
  ⟨.move (.tmp 162), (some 19), none⟩,
  ⟨.move (.tmp 163), (some 20), none⟩]
def o7_18 : List AOper := [⟨.move (.tmp 16), (some 164), none⟩,
  ⟨.bin .neq (.tmp 164) (.const (.int .i64 0)), (some 165), none⟩,
  ⟨.move (.tmp 165), (some 166), none⟩,
  ⟨.move (.tmp 18), (some 167), (some (166, false))⟩,
  ⟨.bin .neq (.tmp 167) (.const (.int .i64 0)), (some 168), (some (166, false))⟩,
  ⟨.pick (.tmp 166) (.const (.bool true)) (.tmp 168), (some 169), none⟩,
  ⟨.move (.tmp 169), (some 170), none⟩,
  ⟨.move (.tmp 20), (some 171), (some (170, false))⟩,
  ⟨.bin .neq (.tmp 171) (.const (.int .i64 0)), (some 172), (some (170, false))⟩,
  ⟨.pick (.tmp 170) (.const (.bool true)) (.tmp 172), (some 173), none⟩,
  ⟨.move (.tmp 173), (some 174), none⟩,
  ⟨.move (.tmp 15), (some 175), (some (174, false))⟩,
  ⟨.bu .len [(.tmp 175)], (some 176), (some (174, false))⟩,
  ⟨.move (.tmp 0), (some 177), (some (174, false))⟩,
  ⟨.bu .len [(.tmp 177)], (some 178), (some (174, false))⟩,
  ⟨.bin .neq (.tmp 176) (.tmp 178), (some 179), (some (174, false))⟩,
  ⟨.pick (.tmp 174) (.const (.bool true)) (.tmp 179), (some 180), none⟩,
  ⟨.move (.tmp 180), (some 181), none⟩,
  ⟨.move (.tmp 17), (some 182), (some (181, false))⟩,
  ⟨.bu .len [(.tmp 182)], (some 183), (some (181, false))⟩,
  ⟨.move (.tmp 0), (some 184), (some (181, false))⟩,
  ⟨.bu .len [(.tmp 184)], (some 185), (some (181, false))⟩,
  ⟨.bin .neq (.tmp 183) (.tmp 185), (some 186), (some (181, false))⟩,
  ⟨.pick (.tmp 181) (.const (.bool true)) (.tmp 186), (some 187), none⟩,
  ⟨.move (.tmp 187), (some 188), none⟩,
  ⟨.move (.tmp 19), (some 189), (some (188, false))⟩,
  ⟨.bu .len [(.tmp 189)], (some 190), (some (188, false))⟩,
  ⟨.move (.tmp 0), (some 191), (some (188, false))⟩,
  ⟨.bu .len [(.tmp 191)], (some 192), (some (188, false))⟩,
  ⟨.bin .neq (.tmp 190) (.tmp 192), (some 193), (some (188, false))⟩,
  ⟨.pick (.tmp 188) (.const (.bool true)) (.tmp 193), (some 194), none⟩]
def o7_19 : List AOper := [⟨.move (.const (.bool false)), (some 8), none⟩]
def o7_20 : List AOper := [⟨.move (.tmp 0), (some 195), none⟩,
  ⟨.bu .len [(.tmp 195)], (some 196), none⟩,
  ⟨.move (.const (.int .i64 0)), (some 197), none⟩]
def o7_22 : List AOper := [⟨.bin .lss (.tmp 197) (.tmp 196), (some 198), none⟩]
def o7_23 : List AOper := [⟨.move (.tmp 197), (some 199), none⟩,
  ⟨.move (.tmp 199), (some 21), none⟩]
def o7_24 : List AOper := [⟨.move (.tmp 15), (some 200), none⟩,
  ⟨.move (.tmp 21), (some 201), none⟩,
  ⟨.addrSl 1 (.tmp 200) (.tmp 201), (some 202), none⟩,
  ⟨.load none (.tmp 202), (some 203), none⟩,
  ⟨.move (.tmp 203), (some 204), none⟩,
  ⟨.move (.tmp 17), (some 205), (some (204, true))⟩,
  ⟨.move (.tmp 21), (some 206), (some (204, true))⟩,
  ⟨.addrSl 1 (.tmp 205) (.tmp 206), (some 207), (some (204, true))⟩,
  ⟨.load none (.tmp 207), (some 208), (some (204, true))⟩,
  ⟨.un .not (.tmp 208), (some 209), (some (204, true))⟩,
  ⟨.pick (.tmp 204) (.tmp 209) (.const (.bool false)), (some 210), none⟩,
  ⟨.move (.tmp 210), (some 211), none⟩,
  ⟨.move (.tmp 17), (some 212), (some (211, false))⟩,
  ⟨.move (.tmp 21), (some 213), (some (211, false))⟩,
  ⟨.addrSl 1 (.tmp 212) (.tmp 213), (some 214), (some (211, false))⟩,
  ⟨.load none (.tmp 214), (some 215), (some (211, false))⟩,
  ⟨.move (.tmp 215), (some 216), (some (211, false))⟩,
  ⟨.move (.tmp 19), (some 217), (some (216, true))⟩,
  ⟨.move (.tmp 21), (some 218), (some (216, true))⟩,
  ⟨.addrSl 1 (.tmp 217) (.tmp 218), (some 219), (some (216, true))⟩,
  ⟨.load none (.tmp 219), (some 220), (some (216, true))⟩,
  ⟨.un .not (.tmp 220), (some 221), (some (216, true))⟩,
  ⟨.pick (.tmp 216) (.tmp 221) (.const (.bool false)), (some 222), (some (211, false))⟩,
  ⟨.pick (.tmp 211) (.const (.bool true)) (.tmp 222), (some 223), none⟩]
def o7_25 : List AOper := [⟨.move (.const (.bool false)), (some 8), none⟩]
def o7_26 : List AOper := [⟨.bin .add (.tmp 197) (.const (.int .i64 1)), (some 224), none⟩,
  ⟨.move (.tmp 224), (some 197), none⟩]
def b7_21 : ACode := (.seq (.ops o7_22) (.seq (.cond (.tmp 198) .skip (.exit 0)) (.seq (.block 1 (.seq (.ops o7_23) (.seq (.ops o7_24) (.cond (.tmp 223) (.seq (.ops o7_25) .ret) .skip)))) (.ops o7_26))))
def o7_27 : List AOper := [⟨.move (.tmp 0), (some 225), none⟩,
  ⟨.bu .len [(.tmp 225)], (some 226), none⟩,
  ⟨.move (.const (.int .i64 0)), (some 227), none⟩]
def o7_29 : List AOper := [⟨.bin .lss (.tmp 227) (.tmp 226), (some 228), none⟩]
def o7_30 : List AOper := [⟨.move (.tmp 227), (some 229), none⟩,
  ⟨.move (.tmp 229), (some 22), none⟩]
def d7_31 : List DOper := [⟨⟨.move (.tmp 0), (some 230), none⟩, 0⟩,
  ⟨⟨.move (.tmp 22), (some 231), none⟩, 0⟩,
  ⟨⟨.addrSl 1 (.tmp 230) (.tmp 231), (some 232), none⟩, 3⟩,
  ⟨⟨.load none (.tmp 232), (some 233), none⟩, 7⟩,
  ⟨⟨.move (.tmp 0), (some 234), none⟩, 0⟩,
  ⟨⟨.addrSl 1 (.tmp 234) (.const (.int .i64 0)), (some 235), none⟩, 16⟩,
  ⟨⟨.load none (.tmp 235), (some 236), none⟩, 48⟩,
  ⟨⟨.bin .neq (.tmp 233) (.tmp 236), (some 237), none⟩, 127⟩]
def o7_32 : List AOper := [⟨.move (.const (.bool true)), (some 8), none⟩]
def o7_33 : List AOper := [⟨.bin .add (.tmp 227) (.const (.int .i64 1)), (some 238), none⟩,
  ⟨.move (.tmp 238), (some 227), none⟩]
def b7_28 : ACode := (.seq (.ops o7_29) (.seq (.cond (.tmp 228) .skip (.exit 2)) (.seq (.block 3 (.seq (.ops o7_30) (.seq (.draw d7_31) (.cond (.tmp 237) (.seq (.ops o7_32) .ret) .skip)))) (.ops o7_33))))
def o7_34 : List AOper := [⟨.move (.tmp 0), (some 239), none⟩,
  ⟨.bu .len [(.tmp 239)], (some 240), none⟩,
  ⟨.move (.const (.int .i64 0)), (some 241), none⟩]
def o7_36 : List AOper := [⟨.bin .lss (.tmp 241) (.tmp 240), (some 242), none⟩]
def o7_37 : List AOper := [⟨.move (.tmp 241), (some 243), none⟩,
  ⟨.move (.tmp 243), (some 23), none⟩]
def o7_38 : List AOper := [⟨.fieldAddr 4 (.tmp 5), (some 244), none⟩,
  ⟨.load none (.tmp 244), (some 245), none⟩,
  ⟨.bin .geq (.tmp 245) (.const (.float .f64 4607182418800017408)), (some 246), none⟩,
  ⟨.move (.tmp 246), (some 247), none⟩,
  ⟨.move (.tmp 9), (some 248), (some (247, true))⟩,
  ⟨.move (.tmp 23), (some 249), (some (247, true))⟩,
  ⟨.addrSl 1 (.tmp 248) (.tmp 249), (some 250), (some (247, true))⟩,
  ⟨.load none (.tmp 250), (some 251), (some (247, true))⟩,
  ⟨.move (.tmp 251), (some 252), (some (247, true))⟩,
  ⟨.move (.tmp 15), (some 253), (some (252, false))⟩,
  ⟨.move (.tmp 23), (some 254), (some (252, false))⟩,
  ⟨.addrSl 1 (.tmp 253) (.tmp 254), (some 255), (some (252, false))⟩,
  ⟨.load none (.tmp 255), (some 256), (some (252, false))⟩,
  ⟨.pick (.tmp 252) (.const (.bool true)) (.tmp 256), (some 257), (some (247, true))⟩,
  ⟨.move (.tmp 257), (some 258), (some (247, true))⟩,
  ⟨.move (.tmp 17), (some 259), (some (258, false))⟩,
  ⟨.move (.tmp 23), (some 260), (some (258, false))⟩,
  ⟨.addrSl 1 (.tmp 259) (.tmp 260), (some 261), (some (258, false))⟩,
  ⟨.load none (.tmp 261), (some 262), (some (258, false))⟩,
  ⟨.pick (.tmp 258) (.const (.bool true)) (.tmp 262), (some 263), (some (247, true))⟩,
  ⟨.move (.tmp 263), (some 264), (some (247, true))⟩,
  ⟨.move (.tmp 19), (some 265), (some (264, false))⟩,
  ⟨.move (.tmp 23), (some 266), (some (264, false))⟩,
  ⟨.addrSl 1 (.tmp 265) (.tmp 266), (some 267), (some (264, false))⟩,
  ⟨.load none (.tmp 267), (some 268), (some (264, false))⟩,
  ⟨.pick (.tmp 264) (.const (.bool true)) (.tmp 268), (some 269), (some (247, true))⟩,
  ⟨.pick (.tmp 247) (.tmp 269) (.const (.bool false)), (some 270), none⟩]
def o7_39 : List AOper := [⟨.move (.const (.bool false)), (some 8), none⟩]
def o7_40 : List AOper := [⟨.bin .add (.tmp 241) (.const (.int .i64 1)), (some 271), none⟩,
  ⟨.move (.tmp 271), (some 241), none⟩]
def b7_35 : ACode := (.seq (.ops o7_36) (.seq (.cond (.tmp 242) .skip (.exit 4)) (.seq (.block 5 (.seq (.ops o7_37) (.seq (.ops o7_38) (.cond (.tmp 270) (.seq (.ops o7_39) .ret) .skip)))) (.ops o7_40))))
def o7_41 : List AOper := [⟨.move (.const (.bool true)), (some 8), none⟩]
def ir7 : AFn := ⟨272, [.tmp 8], (.seq (.ops o7_0) (.seq (.seq (.ops o7_1) (.cond (.tmp 31) (.seq (.ops o7_2) .ret) .skip)) (.seq (.ops o7_3) (.seq (.seq (.ops o7_4) (.cond (.tmp 56) (.seq (.ops o7_5) .ret) .skip)) (.seq (.seq (.ops o7_6) (.cond (.tmp 78) (.seq (.ops o7_7) (.seq (.ops o7_8) (.seq (.ops o7_9) (.seq (.ops o7_10) (.cond (.tmp 115) (.seq (.ops o7_11) .ret) .skip))))) .skip)) (.seq (.ops o7_12) (.seq (.seq (.ops o7_13) (.cond (.tmp 124) (.seq (.ops o7_14) .ret) .skip)) (.seq (.ops o7_15) (.seq (.ops o7_16) (.seq (.ops o7_17) (.seq (.seq (.ops o7_18) (.cond (.tmp 194) (.seq (.ops o7_19) .ret) .skip)) (.seq (.seq (.ops o7_20) (.block 0 (.loop b7_21))) (.seq (.seq (.ops o7_27) (.block 2 (.loop b7_28))) (.seq (.seq (.ops o7_34) (.block 4 (.loop b7_35))) (.seq (.ops o7_41) .ret)))))))))))))))⟩
theorem ir7_eq : fnsOf Try.prog 7 = some ir7 := by kernel_rfl

/-! F28 lookout/lookoutlaw14.fits -/
def o28_0 : List AOper := [⟨.box 26 (.tmp 1), (some 3), none⟩,
  ⟨.move (.const (.bool false)), (some 4), none⟩]
def o28_1 : List AOper := [⟨.move (.tmp 0), (some 5), none⟩,
  ⟨.bu .len [(.tmp 5)], (some 6), none⟩,
  ⟨.load (some 5) (.tmp 3), (some 7), none⟩,
  ⟨.call (.func 9) [(.tmp 6), (.tmp 7)], (some 8), none⟩,
  ⟨.un .not (.tmp 8), (some 9), none⟩,
  ⟨.move (.tmp 9), (some 10), none⟩,
  ⟨.move (.tmp 0), (some 11), (some (10, true))⟩,
  ⟨.bu .len [(.tmp 11)], (some 12), (some (10, true))⟩,
  ⟨.bin .leq (.tmp 12) (.const (.int .i64 16384)), (some 13), (some (10, true))⟩,
  ⟨.pick (.tmp 10) (.tmp 13) (.const (.bool false)), (some 14), none⟩,
  ⟨.move (.tmp 14), (some 15), none⟩,
  ⟨.fieldAddr 1 (.tmp 3), (some 16), (some (15, true))⟩,
  ⟨.load none (.tmp 16), (some 17), (some (15, true))⟩,
  ⟨.bin .geq (.tmp 17) (.const (.int .i64 0)), (some 18), (some (15, true))⟩,
  ⟨.pick (.tmp 15) (.tmp 18) (.const (.bool false)), (some 19), none⟩,
  ⟨.move (.tmp 19), (some 20), none⟩,
  ⟨.fieldAddr 1 (.tmp 3), (some 21), (some (20, true))⟩,
  ⟨.load none (.tmp 21), (some 22), (some (20, true))⟩,
  ⟨.bin .leq (.tmp 22) (.const (.int .i64 16384)), (some 23), (some (20, true))⟩,
  ⟨.pick (.tmp 20) (.tmp 23) (.const (.bool false)), (some 24), none⟩,
  ⟨.move (.tmp 24), (some 25), none⟩,
  ⟨.fieldAddr 2 (.tmp 3), (some 26), (some (25, true))⟩,
  ⟨.load none (.tmp 26), (some 27), (some (25, true))⟩,
  ⟨.bin .geq (.tmp 27) (.const (.int .i64 1)), (some 28), (some (25, true))⟩,
  ⟨.pick (.tmp 25) (.tmp 28) (.const (.bool false)), (some 29), none⟩,
  ⟨.move (.tmp 29), (some 30), none⟩,
  ⟨.fieldAddr 2 (.tmp 3), (some 31), (some (30, true))⟩,
  ⟨.load none (.tmp 31), (some 32), (some (30, true))⟩,
  ⟨.bin .leq (.tmp 32) (.const (.int .i64 16384)), (some 33), (some (30, true))⟩,
  ⟨.pick (.tmp 30) (.tmp 33) (.const (.bool false)), (some 34), none⟩,
  ⟨.move (.tmp 34), (some 35), none⟩,
  ⟨.fieldAddr 3 (.tmp 3), (some 36), (some (35, true))⟩,
  ⟨.load none (.tmp 36), (some 37), (some (35, true))⟩,
  ⟨.bin .geq (.tmp 37) (.const (.int .i64 0)), (some 38), (some (35, true))⟩,
  ⟨.pick (.tmp 35) (.tmp 38) (.const (.bool false)), (some 39), none⟩,
  ⟨.move (.tmp 39), (some 40), none⟩,
  ⟨.fieldAddr 3 (.tmp 3), (some 41), (some (40, true))⟩,
  ⟨.load none (.tmp 41), (some 42), (some (40, true))⟩,
  ⟨.bin .leq (.tmp 42) (.const (.int .i64 32768)), (some 43), (some (40, true))⟩,
  ⟨.pick (.tmp 40) (.tmp 43) (.const (.bool false)), (some 44), none⟩,
  ⟨.move (.tmp 44), (some 45), none⟩,
  ⟨.fieldAddr 4 (.tmp 3), (some 46), (some (45, true))⟩,
  ⟨.load none (.tmp 46), (some 47), (some (45, true))⟩,
  ⟨.fieldAddr 4 (.tmp 3), (some 48), (some (45, true))⟩,
  ⟨.load none (.tmp 48), (some 49), (some (45, true))⟩,
  ⟨.bin .sub (.tmp 47) (.tmp 49), (some 50), (some (45, true))⟩,
  ⟨.bin .eql (.tmp 50) (.const (.float .f64 0)), (some 51), (some (45, true))⟩,
  ⟨.pick (.tmp 45) (.tmp 51) (.const (.bool false)), (some 52), none⟩,
  ⟨.move (.tmp 52), (some 4), none⟩]
def ir28 : AFn := ⟨53, [.tmp 4], (.seq (.ops o28_0) (.seq (.ops o28_1) .ret))⟩
theorem ir28_eq : fnsOf Try.prog 28 = some ir28 := by kernel_rfl

/-! F29 lookout/lookoutlaw14.CfarMore$1 -/
def o29_0 : List AOper := [⟨.move (.const (.bool false)), (some 2), none⟩]
def o29_1 : List AOper := [⟨.move (.tmp 0), (some 3), none⟩,
  ⟨.bin .geq (.tmp 3) (.const (.float .f64 0)), (some 4), none⟩,
  ⟨.move (.tmp 4), (some 5), none⟩,
  ⟨.move (.tmp 0), (some 6), (some (5, true))⟩,
  ⟨.bin .leq (.tmp 6) (.const (.float .f64 4742290407621132288)), (some 7), (some (5, true))⟩,
  ⟨.pick (.tmp 5) (.tmp 7) (.const (.bool false)), (some 8), none⟩,
  ⟨.move (.tmp 8), (some 9), none⟩,
  ⟨.move (.tmp 0), (some 10), (some (9, true))⟩,
  ⟨.move (.tmp 0), (some 11), (some (9, true))⟩,
  ⟨.call (.func 30) [(.tmp 11)], (some 12), (some (9, true))⟩,
  ⟨.bin .eql (.tmp 10) (.tmp 12), (some 13), (some (9, true))⟩,
  ⟨.pick (.tmp 9) (.tmp 13) (.const (.bool false)), (some 14), none⟩,
  ⟨.move (.tmp 14), (some 2), none⟩]
def ir29 : AFn := ⟨15, [.tmp 2], (.seq (.ops o29_0) (.seq (.ops o29_1) .ret))⟩
theorem ir29_eq : fnsOf Try.prog 29 = some ir29 := by kernel_rfl

/-! F30 math.Floor -/
def o30_0 : List AOper := [⟨.move (.const (.float .f64 0)), (some 2), none⟩]
def o30_1 : List AOper := [⟨.move (.tmp 0), (some 3), none⟩,
  ⟨.ext 2 52 [(.tmp 3)], (some 4), none⟩,
  ⟨.move (.tmp 4), (some 2), none⟩]
def o30_2 : List AOper := [⟨.move (.tmp 0), (some 5), none⟩,
  ⟨.call (.func 53) [(.tmp 5)], (some 6), none⟩,
  ⟨.move (.tmp 6), (some 2), none⟩]
def ir30 : AFn := ⟨7, [.tmp 2], (.seq (.ops o30_0) (.seq (.cond (.const (.bool true)) (.seq (.ops o30_1) .ret) .skip) (.seq (.ops o30_2) .ret)))⟩
theorem ir30_eq : fnsOf Try.prog 30 = some ir30 := by kernel_rfl

/-! F31 lookout/lookoutlaw14.all -/
def o31_0 : List AOper := [⟨.move (.const (.bool false)), (some 4), none⟩]
def o31_1 : List AOper := [⟨.move (.tmp 0), (some 7), none⟩,
  ⟨.bu .len [(.tmp 7)], (some 8), none⟩,
  ⟨.move (.const (.int .i64 0)), (some 9), none⟩]
def o31_3 : List AOper := [⟨.bin .lss (.tmp 9) (.tmp 8), (some 10), none⟩]
def o31_4 : List AOper := [⟨.addrSl 1 (.tmp 7) (.tmp 9), (some 11), none⟩,
  ⟨.load none (.tmp 11), (some 12), none⟩,
  ⟨.move (.tmp 12), (some 6), none⟩]
def o31_5 : List AOper := [⟨.move (.tmp 1), (some 13), none⟩,
  ⟨.move (.tmp 6), (some 14), none⟩,
  ⟨.call (.tmp 13) [(.tmp 14)], (some 15), none⟩,
  ⟨.un .not (.tmp 15), (some 16), none⟩]
def o31_6 : List AOper := [⟨.move (.const (.bool false)), (some 4), none⟩]
def o31_7 : List AOper := [⟨.bin .add (.tmp 9) (.const (.int .i64 1)), (some 17), none⟩,
  ⟨.move (.tmp 17), (some 9), none⟩]
def b31_2 : ACode := (.seq (.ops o31_3) (.seq (.cond (.tmp 10) .skip (.exit 0)) (.seq (.block 1 (.seq (.ops o31_4) (.seq (.ops o31_5) (.cond (.tmp 16) (.seq (.ops o31_6) .ret) .skip)))) (.ops o31_7))))
def o31_8 : List AOper := [⟨.move (.const (.bool true)), (some 4), none⟩]
def ir31 : AFn := ⟨18, [.tmp 4], (.seq (.ops o31_0) (.seq (.seq (.ops o31_1) (.block 0 (.loop b31_2))) (.seq (.ops o31_8) .ret)))⟩
theorem ir31_eq : fnsOf Try.prog 31 = some ir31 := by kernel_rfl


end Go.Proofs.Ytfjdihfflghfpaa
