/- The small machine's text of functions of the seat. -/
import Derived.Test.YtfjdihfflghfpaaRows
import Derived.Test.YtfjdihfflghfpaaVam25
import Derived.KernelRfl
namespace Go.Proofs.Ytfjdihfflghfpaa
open Go Go.Vam

/-! F28 lookout/lookoutlaw14.fits -/
def o28_0 : List AOper := [⟨.box 26 (.tmp 1), (some 3), none⟩,
  ⟨.move (.const (.bool false)), (some 4), none⟩]
def o28_1 : List AOper := [⟨.move (.tmp 0), (some 5), none⟩,
  ⟨.bu .len [(.tmp 5)], (some 6), none⟩,
  ⟨.load (some 5) (.tmp 3), (some 7), none⟩,
  ⟨.call (.func 9) [(.tmp 6), (.tmp 7)], (some 8), none⟩,
  ⟨.un .not (.tmp 8), (some 9), none⟩,
  ⟨.move (.tmp 9), (some 10), none⟩,
  ⟨.move (.tmp 0), (some 11), (some (10, true))⟩,
  ⟨.bu .len [(.tmp 11)], (some 12), (some (10, true))⟩,
  ⟨.bin .leq (.tmp 12) (.const (.int .i64 16384)), (some 13), (some (10, true))⟩,
  ⟨.pick (.tmp 10) (.tmp 13) (.const (.bool false)), (some 14), none⟩,
  ⟨.move (.tmp 14), (some 15), none⟩,
  ⟨.fieldAddr 1 (.tmp 3), (some 16), (some (15, true))⟩,
  ⟨.load none (.tmp 16), (some 17), (some (15, true))⟩,
  ⟨.bin .geq (.tmp 17) (.const (.int .i64 0)), (some 18), (some (15, true))⟩,
  ⟨.pick (.tmp 15) (.tmp 18) (.const (.bool false)), (some 19), none⟩,
  ⟨.move (.tmp 19), (some 20), none⟩,
  ⟨.fieldAddr 1 (.tmp 3), (some 21), (some (20, true))⟩,
  ⟨.load none (.tmp 21), (some 22), (some (20, true))⟩,
  ⟨.bin .leq (.tmp 22) (.const (.int .i64 16384)), (some 23), (some (20, true))⟩,
  ⟨.pick (.tmp 20) (.tmp 23) (.const (.bool false)), (some 24), none⟩,
  ⟨.move (.tmp 24), (some 25), none⟩,
  ⟨.fieldAddr 2 (.tmp 3), (some 26), (some (25, true))⟩,
  ⟨.load none (.tmp 26), (some 27), (some (25, true))⟩,
  ⟨.bin .geq (.tmp 27) (.const (.int .i64 1)), (some 28), (some (25, true))⟩,
  ⟨.pick (.tmp 25) (.tmp 28) (.const (.bool false)), (some 29), none⟩,
  ⟨.move (.tmp 29), (some 30), none⟩,
  ⟨.fieldAddr 2 (.tmp 3), (some 31), (some (30, true))⟩,
  ⟨.load none (.tmp 31), (some 32), (some (30, true))⟩,
  ⟨.bin .leq (.tmp 32) (.const (.int .i64 16384)), (some 33), (some (30, true))⟩,
  ⟨.pick (.tmp 30) (.tmp 33) (.const (.bool false)), (some 34), none⟩,
  ⟨.move (.tmp 34), (some 35), none⟩,
  ⟨.fieldAddr 3 (.tmp 3), (some 36), (some (35, true))⟩,
  ⟨.load none (.tmp 36), (some 37), (some (35, true))⟩,
  ⟨.bin .geq (.tmp 37) (.const (.int .i64 0)), (some 38), (some (35, true))⟩,
  ⟨.pick (.tmp 35) (.tmp 38) (.const (.bool false)), (some 39), none⟩,
  ⟨.move (.tmp 39), (some 40), none⟩,
  ⟨.fieldAddr 3 (.tmp 3), (some 41), (some (40, true))⟩,
  ⟨.load none (.tmp 41), (some 42), (some (40, true))⟩,
  ⟨.bin .leq (.tmp 42) (.const (.int .i64 32768)), (some 43), (some (40, true))⟩,
  ⟨.pick (.tmp 40) (.tmp 43) (.const (.bool false)), (some 44), none⟩,
  ⟨.move (.tmp 44), (some 45), none⟩,
  ⟨.fieldAddr 4 (.tmp 3), (some 46), (some (45, true))⟩,
  ⟨.load none (.tmp 46), (some 47), (some (45, true))⟩,
  ⟨.fieldAddr 4 (.tmp 3), (some 48), (some (45, true))⟩,
  ⟨.load none (.tmp 48), (some 49), (some (45, true))⟩,
  ⟨.bin .sub (.tmp 47) (.tmp 49), (some 50), (some (45, true))⟩,
  ⟨.bin .eql (.tmp 50) (.const (.float .f64 0)), (some 51), (some (45, true))⟩,
  ⟨.pick (.tmp 45) (.tmp 51) (.const (.bool false)), (some 52), none⟩,
  ⟨.move (.tmp 52), (some 4), none⟩]
def ir28 : AFn := ⟨53, [.tmp 4], (.seq (.ops o28_0) (.seq (.ops o28_1) .ret))⟩
theorem ir28_eq : fnsOf Try.prog 28 = some ir28 := by kernel_rfl

/-! F31 lookout/lookoutlaw14.all -/
def o31_0 : List AOper := [⟨.move (.const (.bool false)), (some 4), none⟩]
def o31_1 : List AOper := [⟨.move (.tmp 0), (some 7), none⟩,
  ⟨.bu .len [(.tmp 7)], (some 8), none⟩,
  ⟨.move (.const (.int .i64 0)), (some 9), none⟩]
def o31_3 : List AOper := [⟨.bin .lss (.tmp 9) (.tmp 8), (some 10), none⟩]
def o31_4 : List AOper := [⟨.addrSl 1 (.tmp 7) (.tmp 9), (some 11), none⟩,
  ⟨.load none (.tmp 11), (some 12), none⟩,
  ⟨.move (.tmp 12), (some 6), none⟩]
def o31_5 : List AOper := [⟨.move (.tmp 1), (some 13), none⟩,
  ⟨.move (.tmp 6), (some 14), none⟩,
  ⟨.call (.tmp 13) [(.tmp 14)], (some 15), none⟩,
  ⟨.un .not (.tmp 15), (some 16), none⟩]
def o31_6 : List AOper := [⟨.move (.const (.bool false)), (some 4), none⟩]
def o31_7 : List AOper := [⟨.bin .add (.tmp 9) (.const (.int .i64 1)), (some 17), none⟩,
  ⟨.move (.tmp 17), (some 9), none⟩]
def b31_2 : ACode := (.seq (.ops o31_3) (.seq (.cond (.tmp 10) .skip (.exit 0)) (.seq (.block 1 (.seq (.ops o31_4) (.seq (.ops o31_5) (.cond (.tmp 16) (.seq (.ops o31_6) .ret) .skip)))) (.ops o31_7))))
def o31_8 : List AOper := [⟨.move (.const (.bool true)), (some 4), none⟩]
def ir31 : AFn := ⟨18, [.tmp 4], (.seq (.ops o31_0) (.seq (.seq (.ops o31_1) (.block 0 (.loop b31_2))) (.seq (.ops o31_8) .ret)))⟩
theorem ir31_eq : fnsOf Try.prog 31 = some ir31 := by kernel_rfl


end Go.Proofs.Ytfjdihfflghfpaa

/- The small machine's text of functions of the seat. -/
namespace Go.Proofs.Ytfjdihfflghfpaa
open Go Go.Vam

/-! F8 lookout/lookoutlaw14.CfarCells -/
def o8_0 : List AOper := [⟨.box 26 (.tmp 1), (some 8), none⟩,
  ⟨.move (.const (.bool false)), (some 14), none⟩]
def o8_1 : List AOper := [⟨.call (.func 10) [], (some 31), none⟩,
  ⟨.un .not (.tmp 31), (some 32), none⟩,
  ⟨.move (.tmp 32), (some 33), none⟩,
  ⟨.move (.tmp 0), (some 34), (some (33, false))⟩,
  ⟨.load (some 5) (.tmp 8), (some 35), (some (33, false))⟩,
  ⟨.call (.func 28) [(.tmp 34), (.tmp 35)], (some 36), (some (33, false))⟩,
  ⟨.un .not (.tmp 36), (some 37), (some (33, false))⟩,
  ⟨.pick (.tmp 33) (.const (.bool true)) (.tmp 37), (some 38), none⟩,
  ⟨.move (.tmp 38), (some 39), none⟩,
  ⟨.move (.tmp 2), (some 40), (some (39, false))⟩,
  ⟨.bin .lss (.tmp 40) (.const (.int .i64 0)), (some 41), (some (39, false))⟩,
  ⟨.pick (.tmp 39) (.const (.bool true)) (.tmp 41), (some 42), none⟩,
  ⟨.move (.tmp 42), (some 43), none⟩,
  ⟨.move (.tmp 2), (some 44), (some (43, false))⟩,
  ⟨.move (.tmp 0), (some 45), (some (43, false))⟩,
  ⟨.bu .len [(.tmp 45)], (some 46), (some (43, false))⟩,
  ⟨.bin .geq (.tmp 44) (.tmp 46), (some 47), (some (43, false))⟩,
  ⟨.pick (.tmp 43) (.const (.bool true)) (.tmp 47), (some 48), none⟩]
def o8_2 : List AOper := [⟨.call (.func 10) [], (some 49), none⟩,
  ⟨.move (.tmp 49), (some 14), none⟩]
def o8_3 : List AOper := [⟨.move (.tmp 0), (some 51), none⟩,
  ⟨.move (.tmp 2), (some 52), none⟩,
  ⟨.fieldAddr 0 (.tmp 8), (some 53), none⟩,
  ⟨.load none (.tmp 53), (some 54), none⟩,
  ⟨.fieldAddr 1 (.tmp 8), (some 55), none⟩,
  ⟨.load none (.tmp 55), (some 56), none⟩,
  ⟨.fieldAddr 2 (.tmp 8), (some 57), none⟩,
  ⟨.load none (.tmp 57), (some 58), none⟩,
  ⟨.fieldAddr 3 (.tmp 8), (some 59), none⟩,
  ⟨.load none (.tmp 59), (some 60), none⟩,
  ⟨.call (.func 12) [(.tmp 51), (.tmp 52), (.tmp 54), (.tmp 56), (.tmp 58), (.tmp 60)], (some 61), none⟩,
  ⟨.move (.tmp 61), (some 50), none⟩,
  ⟨.extract (.tmp 50) 0, (some 62), none⟩,
  ⟨.extract (.tmp 50) 1, (some 63), none⟩,
  ⟨.move (.tmp 62), (some 15), none⟩,
  ⟨.move (.tmp 63), (some 16), none⟩]
def d8_4 : List DOper := [⟨⟨.move (.tmp 0), (some 65), none⟩, 0⟩,
  ⟨⟨.move (.tmp 3), (some 66), none⟩, 0⟩,
  ⟨⟨.move (.tmp 2), (some 67), none⟩, 0⟩,
  ⟨⟨.load (some 5) (.tmp 8), (some 68), none⟩, 0⟩,
  ⟨⟨.call (.func 32) [(.tmp 65), (.tmp 66), (.tmp 67), (.tmp 68)], (some 69), none⟩, 15⟩,
  ⟨⟨.move (.tmp 2), (some 70), none⟩, 0⟩,
  ⟨⟨.fieldAddr 0 (.tmp 8), (some 71), none⟩, 0⟩,
  ⟨⟨.load none (.tmp 71), (some 72), none⟩, 64⟩,
  ⟨⟨.fieldAddr 1 (.tmp 8), (some 73), none⟩, 0⟩,
  ⟨⟨.load none (.tmp 73), (some 74), none⟩, 256⟩,
  ⟨⟨.fieldAddr 2 (.tmp 8), (some 75), none⟩, 0⟩,
  ⟨⟨.load none (.tmp 75), (some 76), none⟩, 1024⟩,
  ⟨⟨.fieldAddr 3 (.tmp 8), (some 77), none⟩, 0⟩,
  ⟨⟨.load none (.tmp 77), (some 78), none⟩, 4096⟩,
  ⟨⟨.call (.func 12) [(.tmp 69), (.tmp 70), (.tmp 72), (.tmp 74), (.tmp 76), (.tmp 78)], (some 79), none⟩, 16383⟩,
  ⟨⟨.move (.tmp 79), (some 64), none⟩, 32767⟩,
  ⟨⟨.extract (.tmp 64) 0, (some 80), none⟩, 65535⟩,
  ⟨⟨.extract (.tmp 64) 1, (some 81), none⟩, 65535⟩,
  ⟨⟨.move (.tmp 80), (some 17), none⟩, 131071⟩,
  ⟨⟨.move (.tmp 81), (some 18), none⟩, 524287⟩]
def o8_5 : List AOper := [⟨.move (.tmp 16), (some 82), none⟩,
  ⟨.bin .neq (.tmp 82) (.const (.int .i64 0)), (some 83), none⟩,
  ⟨.move (.tmp 83), (some 84), none⟩,
  ⟨.move (.tmp 18), (some 85), (some (84, false))⟩,
  ⟨.bin .neq (.tmp 85) (.const (.int .i64 0)), (some 86), (some (84, false))⟩,
  ⟨.pick (.tmp 84) (.const (.bool true)) (.tmp 86), (some 87), none⟩,
  ⟨.move (.tmp 87), (some 88), none⟩,
  ⟨.move (.tmp 15), (some 89), (some (88, false))⟩,
  ⟨.move (.tmp 17), (some 90), (some (88, false))⟩,
  ⟨.call (.func 33) [(.tmp 89), (.tmp 90)], (some 91), (some (88, false))⟩,
  ⟨.un .not (.tmp 91), (some 92), (some (88, false))⟩,
  ⟨.pick (.tmp 88) (.const (.bool true)) (.tmp 92), (some 93), none⟩]
def o8_6 : List AOper := [⟨.move (.const (.bool false)), (some 14), none⟩]
def o8_7 : List AOper := [⟨.fieldAddr 0 (.tmp 8), (some 94), none⟩,
  ⟨.load none (.tmp 94), (some 95), none⟩,
  ⟨.bin .eql (.tmp 95) (.const (.int .i8 3)), (some 96), none⟩]
def o8_8 : List AOper := [⟨.move (.tmp 0), (some 97), none⟩,
  ⟨.append 24 8 1 [(.float .f64 0)] (.const (.slice none 0 0)) (.tmp 97), (some 98), none⟩,
  ⟨.move (.tmp 98), (some 19), none⟩]
def d8_9 : List DOper := [⟨⟨.move (.tmp 2), (some 99), none⟩, 0⟩,
  ⟨⟨.fieldAddr 1 (.tmp 8), (some 100), none⟩, 0⟩,
  ⟨⟨.load none (.tmp 100), (some 101), none⟩, 2⟩,
  ⟨⟨.bin .add (.tmp 99) (.tmp 101), (some 102), none⟩, 7⟩,
  ⟨⟨.bin .add (.tmp 102) (.const (.int .i64 1)), (some 103), none⟩, 15⟩,
  ⟨⟨.move (.tmp 5), (some 104), none⟩, 0⟩,
  ⟨⟨.bin .and (.tmp 104) (.const (.int .i64 65535)), (some 105), none⟩, 32⟩,
  ⟨⟨.fieldAddr 2 (.tmp 8), (some 106), none⟩, 0⟩,
  ⟨⟨.load none (.tmp 106), (some 107), none⟩, 128⟩,
  ⟨⟨.bin .rem (.tmp 105) (.tmp 107), (some 108), none⟩, 480⟩,
  ⟨⟨.bin .add (.tmp 103) (.tmp 108), (some 109), none⟩, 1023⟩,
  ⟨⟨.move (.tmp 2), (some 110), none⟩, 0⟩,
  ⟨⟨.fieldAddr 1 (.tmp 8), (some 111), none⟩, 0⟩,
  ⟨⟨.load none (.tmp 111), (some 112), none⟩, 4096⟩,
  ⟨⟨.bin .sub (.tmp 110) (.tmp 112), (some 113), none⟩, 14336⟩,
  ⟨⟨.bin .sub (.tmp 113) (.const (.int .i64 1)), (some 114), none⟩, 30720⟩,
  ⟨⟨.move (.tmp 6), (some 115), none⟩, 0⟩,
  ⟨⟨.bin .and (.tmp 115) (.const (.int .i64 65535)), (some 116), none⟩, 65536⟩,
  ⟨⟨.fieldAddr 2 (.tmp 8), (some 117), none⟩, 0⟩,
  ⟨⟨.load none (.tmp 117), (some 118), none⟩, 262144⟩,
  ⟨⟨.bin .rem (.tmp 116) (.tmp 118), (some 119), none⟩, 983040⟩,
  ⟨⟨.bin .sub (.tmp 114) (.tmp 119), (some 120), none⟩, 2095104⟩,
  ⟨⟨.move (.tmp 109), (some 20), none⟩, 2047⟩,
  ⟨⟨.move (.tmp 120), (some 21), none⟩, 8388607⟩]
def o8_10 : List AOper := [⟨.move (.tmp 20), (some 121), none⟩,
  ⟨.move (.tmp 19), (some 122), none⟩,
  ⟨.bu .len [(.tmp 122)], (some 123), none⟩,
  ⟨.bin .lss (.tmp 121) (.tmp 123), (some 124), none⟩,
  ⟨.move (.tmp 124), (some 125), none⟩,
  ⟨.move (.tmp 21), (some 126), (some (125, true))⟩,
  ⟨.bin .geq (.tmp 126) (.const (.int .i64 0)), (some 127), (some (125, true))⟩,
  ⟨.pick (.tmp 125) (.tmp 127) (.const (.bool false)), (some 128), none⟩]
def d8_11 : List DOper := [⟨⟨.move (.tmp 19), (some 129), none⟩, 0⟩,
  ⟨⟨.move (.tmp 20), (some 130), none⟩, 0⟩,
  ⟨⟨.move (.tmp 19), (some 131), none⟩, 0⟩,
  ⟨⟨.move (.tmp 21), (some 132), none⟩, 0⟩,
  ⟨⟨.move (.tmp 19), (some 133), none⟩, 0⟩,
  ⟨⟨.move (.tmp 21), (some 134), none⟩, 0⟩,
  ⟨⟨.addrSl 1 (.tmp 133) (.tmp 134), (some 135), none⟩, 48⟩,
  ⟨⟨.load none (.tmp 135), (some 136), none⟩, 112⟩,
  ⟨⟨.move (.tmp 19), (some 137), none⟩, 0⟩,
  ⟨⟨.move (.tmp 20), (some 138), none⟩, 0⟩,
  ⟨⟨.addrSl 1 (.tmp 137) (.tmp 138), (some 139), none⟩, 768⟩,
  ⟨⟨.load none (.tmp 139), (some 140), none⟩, 1792⟩,
  ⟨⟨.addrSl 1 (.tmp 129) (.tmp 130), (some 141), none⟩, 4083⟩,
  ⟨⟨.store 1 (.tmp 141) (.tmp 136), none, none⟩, 8179⟩,
  ⟨⟨.addrSl 1 (.tmp 131) (.tmp 132), (some 142), none⟩, 16383⟩,
  ⟨⟨.store 1 (.tmp 142) (.tmp 140), none, none⟩, 32767⟩]
def o8_12 : List AOper := [⟨.move (.tmp 19), (some 144), none⟩,
  ⟨.move (.tmp 2), (some 145), none⟩,
  ⟨.fieldAddr 0 (.tmp 8), (some 146), none⟩,
  ⟨.load none (.tmp 146), (some 147), none⟩,
  ⟨.fieldAddr 1 (.tmp 8), (some 148), none⟩,
  ⟨.load none (.tmp 148), (some 149), none⟩,
  ⟨.fieldAddr 2 (.tmp 8), (some 150), none⟩,
  ⟨.load none (.tmp 150), (some 151), none⟩,
  ⟨.fieldAddr 3 (.tmp 8), (some 152), none⟩,
  ⟨.load none (.tmp 152), (some 153), none⟩,
  ⟨.call (.func 12) [(.tmp 144), (.tmp 145), (.tmp 147), (.tmp 149), (.tmp 151), (.tmp 153)], (some 154), none⟩,
  ⟨.move (.tmp 154), (some 143), none⟩,
  ⟨.extract (.tmp 143) 0, (some 155), none⟩,
  ⟨.extract (.tmp 143) 1, (some 156), none⟩,
  ⟨.move (.tmp 155), (some 17), none⟩,
  ⟨.move (.tmp 156), (some 18), none⟩]
def o8_13 : List AOper := [⟨.move (.tmp 18), (some 157), none⟩,
  ⟨.bin .neq (.tmp 157) (.const (.int .i64 0)), (some 158), none⟩,
  ⟨.move (.tmp 158), (some 159), none⟩,
  ⟨.move (.tmp 15), (some 160), (some (159, false))⟩,
  ⟨.move (.tmp 17), (some 161), (some (159, false))⟩,
  ⟨.call (.func 33) [(.tmp 160), (.tmp 161)], (some 162), (some (159, false))⟩,
  ⟨.un .not (.tmp 162), (some 163), (some (159, false))⟩,
  ⟨.pick (.tmp 159) (.const (.bool true)) (.tmp 163), (some 164), none⟩]
def o8_14 : List AOper := [⟨.move (.const (.bool false)), (some 14), none⟩]
def o8_15 : List AOper := [⟨.move (.tmp 0), (some 165), none⟩,
  ⟨.call (.func 31) [(.tmp 165), (.func 34)], (some 166), none⟩,
  ⟨.un .not (.tmp 166), (some 167), none⟩,
  ⟨.move (.tmp 167), (some 168), none⟩,
  ⟨.fieldAddr 4 (.tmp 8), (some 169), (some (168, false))⟩,
  ⟨.load none (.tmp 169), (some 170), (some (168, false))⟩,
  ⟨.call (.func 34) [(.tmp 170)], (some 171), (some (168, false))⟩,
  ⟨.un .not (.tmp 171), (some 172), (some (168, false))⟩,
  ⟨.pick (.tmp 168) (.const (.bool true)) (.tmp 172), (some 173), none⟩,
  ⟨.move (.tmp 173), (some 174), none⟩,
  ⟨.move (.tmp 4), (some 175), (some (174, false))⟩,
  ⟨.bin .lss (.tmp 175) (.const (.int .i64 (-100))), (some 176), (some (174, false))⟩,
  ⟨.pick (.tmp 174) (.const (.bool true)) (.tmp 176), (some 177), none⟩,
  ⟨.move (.tmp 177), (some 178), none⟩,
  ⟨.move (.tmp 4), (some 179), (some (178, false))⟩,
  ⟨.bin .gtr (.tmp 179) (.const (.int .i64 100)), (some 180), (some (178, false))⟩,
  ⟨.pick (.tmp 178) (.const (.bool true)) (.tmp 180), (some 181), none⟩]
def o8_16 : List AOper := [⟨.move (.const (.bool true)), (some 14), none⟩]
def o8_17 : List AOper := [⟨.move (.tmp 4), (some 182), none⟩,
  ⟨.call (.func 35) [(.const (.float .f64 4607182418800017408)), (.tmp 182)], (some 183), none⟩,
  ⟨.move (.tmp 183), (some 22), none⟩]
def o8_18 : List AOper := [⟨.move (.const (.slice none 0 0)), (some 23), none⟩]
def o8_19 : List AOper := [⟨.move (.tmp 0), (some 184), none⟩,
  ⟨.bu .len [(.tmp 184)], (some 185), none⟩,
  ⟨.move (.const (.int .i64 0)), (some 186), none⟩]
def o8_21 : List AOper := [⟨.bin .lss (.tmp 186) (.tmp 185), (some 187), none⟩]
def o8_22 : List AOper := [⟨.addrSl 1 (.tmp 184) (.tmp 186), (some 188), none⟩,
  ⟨.load none (.tmp 188), (some 189), none⟩,
  ⟨.move (.tmp 189), (some 25), none⟩]
def o8_23 : List AOper := [⟨.move (.tmp 23), (some 190), none⟩,
  ⟨.move (.tmp 25), (some 191), none⟩,
  ⟨.move (.tmp 22), (some 192), none⟩,
  ⟨.bin .mul (.tmp 191) (.tmp 192), (some 193), none⟩,
  ⟨.buildSlice 24 1 [(.float .f64 0)] 1 [(0, (.tmp 193))], (some 194), none⟩,
  ⟨.append 24 8 1 [(.float .f64 0)] (.tmp 190) (.tmp 194), (some 195), none⟩,
  ⟨.move (.tmp 195), (some 23), none⟩]
def o8_24 : List AOper := [⟨.bin .add (.tmp 186) (.const (.int .i64 1)), (some 196), none⟩,
  ⟨.move (.tmp 196), (some 186), none⟩]
def b8_20 : ACode := (.seq (.ops o8_21) (.seq (.cond (.tmp 187) .skip (.exit 0)) (.seq (.block 1 (.seq (.ops o8_22) (.ops o8_23))) (.ops o8_24))))
def o8_25 : List AOper := [⟨.move (.tmp 23), (some 198), none⟩,
  ⟨.move (.tmp 2), (some 199), none⟩,
  ⟨.fieldAddr 0 (.tmp 8), (some 200), none⟩,
  ⟨.load none (.tmp 200), (some 201), none⟩,
  ⟨.fieldAddr 1 (.tmp 8), (some 202), none⟩,
  ⟨.load none (.tmp 202), (some 203), none⟩,
  ⟨.fieldAddr 2 (.tmp 8), (some 204), none⟩,
  ⟨.load none (.tmp 204), (some 205), none⟩,
  ⟨.fieldAddr 3 (.tmp 8), (some 206), none⟩,
  ⟨.load none (.tmp 206), (some 207), none⟩,
  ⟨.call (.func 12) [(.tmp 198), (.tmp 199), (.tmp 201), (.tmp 203), (.tmp 205), (.tmp 207)], (some 208), none⟩,
  ⟨.move (.tmp 208), (some 197), none⟩,
  ⟨.extract (.tmp 197) 0, (some 209), none⟩,
  ⟨.extract (.tmp 197) 1, (some 210), none⟩,
  ⟨.move (.tmp 209), (some 17), none⟩,
  ⟨.move (.tmp 210), (some 18), none⟩]
def o8_26 : List AOper := [⟨.move (.tmp 18), (some 211), none⟩,
  ⟨.bin .neq (.tmp 211) (.const (.int .i64 0)), (some 212), none⟩,
  ⟨.move (.tmp 212), (some 213), none⟩,
  ⟨.move (.tmp 17), (some 214), (some (213, false))⟩,
  ⟨.move (.tmp 15), (some 215), (some (213, false))⟩,
  ⟨.move (.tmp 22), (some 216), (some (213, false))⟩,
  ⟨.bin .mul (.tmp 215) (.tmp 216), (some 217), (some (213, false))⟩,
  ⟨.call (.func 33) [(.tmp 214), (.tmp 217)], (some 218), (some (213, false))⟩,
  ⟨.un .not (.tmp 218), (some 219), (some (213, false))⟩,
  ⟨.pick (.tmp 213) (.const (.bool true)) (.tmp 219), (some 220), none⟩]
def o8_27 : List AOper := [⟨.move (.const (.bool false)), (some 14), none⟩]
def o8_28 : List AOper := [⟨.move (.tmp 0), (some 222), none⟩,
  ⟨.fieldAddr 0 (.tmp 8), (some 223), none⟩,
  ⟨.load none (.tmp 223), (some 224), none⟩,
  ⟨.fieldAddr 1 (.tmp 8), (some 225), none⟩,
  ⟨.load none (.tmp 225), (some 226), none⟩,
  ⟨.fieldAddr 2 (.tmp 8), (some 227), none⟩,
  ⟨.load none (.tmp 227), (some 228), none⟩,
  ⟨.fieldAddr 3 (.tmp 8), (some 229), none⟩,
  ⟨.load none (.tmp 229), (some 230), none⟩,
  ⟨.fieldAddr 4 (.tmp 8), (some 231), none⟩,
  ⟨.load none (.tmp 231), (some 232), none⟩,
  ⟨.call (.func 16) [(.tmp 222), (.tmp 224), (.tmp 226), (.tmp 228), (.tmp 230), (.tmp 232)], (some 233), none⟩,
  ⟨.move (.tmp 233), (some 221), none⟩,
  ⟨.extract (.tmp 221) 0, (some 234), none⟩,
  ⟨.extract (.tmp 221) 1, (some 235), none⟩,
  ⟨.move (.tmp 234), (some 26), none⟩,
  ⟨.move (.tmp 235), (some 27), none⟩]
def o8_29 : List AOper := [⟨.move (.tmp 23), (some 237), none⟩,
  ⟨.fieldAddr 0 (.tmp 8), (some 238), none⟩,
  ⟨.load none (.tmp 238), (some 239), none⟩,
  ⟨.fieldAddr 1 (.tmp 8), (some 240), none⟩,
  ⟨.load none (.tmp 240), (some 241), none⟩,
  ⟨.fieldAddr 2 (.tmp 8), (some 242), none⟩,
  ⟨.load none (.tmp 242), (some 243), none⟩,
  ⟨.fieldAddr 3 (.tmp 8), (some 244), none⟩,
  ⟨.load none (.tmp 244), (some 245), none⟩,
  ⟨.fieldAddr 4 (.tmp 8), (some 246), none⟩,
  ⟨.load none (.tmp 246), (some 247), none⟩,
  ⟨.call (.func 16) [(.tmp 237), (.tmp 239), (.tmp 241), (.tmp 243), (.tmp 245), (.tmp 247)], (some 248), none⟩,
  ⟨.move (.tmp 248), (some 236), none⟩,
  ⟨.extract (.tmp 236) 0, (some 249), none⟩,
  ⟨.extract (.tmp 236) 1, (some 250), none⟩,
  ⟨.move (.tmp 249), (some 28), none⟩,
  ⟨.move (.tmp 250), (some 29), none⟩]
def o8_30 : List AOper := [⟨.move (.tmp 27), (some 251), none⟩,
  ⟨.bin .neq (.tmp 251) (.const (.int .i64 0)), (some 252), none⟩,
  ⟨.move (.tmp 252), (some 253), none⟩,
  ⟨.move (.tmp 29), (some 254), (some (253, false))⟩,
  ⟨.bin .neq (.tmp 254) (.const (.int .i64 0)), (some 255), (some (253, false))⟩,
  ⟨.pick (.tmp 253) (.const (.bool true)) (.tmp 255), (some 256), none⟩,
  ⟨.move (.tmp 256), (some 257), none⟩,
  ⟨.move (.tmp 26), (some 258), (some (257, false))⟩,
  ⟨.bu .len [(.tmp 258)], (some 259), (some (257, false))⟩,
  ⟨.move (.tmp 0), (some 260), (some (257, false))⟩,
  ⟨.bu .len [(.tmp 260)], (some 261), (some (257, false))⟩,
  ⟨.bin .neq (.tmp 259) (.tmp 261), (some 262), (some (257, false))⟩,
  ⟨.pick (.tmp 257) (.const (.bool true)) (.tmp 262), (some 263), none⟩,
  ⟨.move (.tmp 263), (some 264), none⟩,
  ⟨.move (.tmp 28), (some 265), (some (264, false))⟩,
  ⟨.bu .len [(.tmp 265)], (some 266), (some (264, false))⟩,
  ⟨.move (.tmp 0), (some 267), (some (264, false))⟩,
  ⟨.bu .len [(.tmp 267)], (some 268), (some (264, false))⟩,
  ⟨.bin .neq (.tmp 266) (.tmp 268), (some 269), (some (264, false))⟩,
  ⟨.pick (.tmp 264) (.const (.bool true)) (.tmp 269), (some 270), none⟩]
def o8_31 : List AOper := [⟨.move (.const (.bool false)), (some 14), none⟩]
def o8_32 : List AOper := [⟨.move (.tmp 26), (some 271), none⟩,
  ⟨.bu .len [(.tmp 271)], (some 272), none⟩,
  ⟨.move (.const (.int .i64 0)), (some 273), none⟩]
def o8_34 : List AOper := [⟨.bin .lss (.tmp 273) (.tmp 272), (some 274), none⟩]
def o8_35 : List AOper := [⟨.move (.tmp 273), (some 275), none⟩,
  ⟨.move (.tmp 275), (some 30), none⟩]
def d8_36 : List DOper := [⟨⟨.move (.tmp 26), (some 276), none⟩, 0⟩,
  ⟨⟨.move (.tmp 30), (some 277), none⟩, 0⟩,
  ⟨⟨.addrSl 1 (.tmp 276) (.tmp 277), (some 278), none⟩, 3⟩,
  ⟨⟨.load none (.tmp 278), (some 279), none⟩, 7⟩,
  ⟨⟨.move (.tmp 28), (some 280), none⟩, 0⟩,
  ⟨⟨.move (.tmp 30), (some 281), none⟩, 0⟩,
  ⟨⟨.addrSl 1 (.tmp 280) (.tmp 281), (some 282), none⟩, 48⟩,
  ⟨⟨.load none (.tmp 282), (some 283), none⟩, 112⟩,
  ⟨⟨.eq true .bool (.tmp 279) (.tmp 283), (some 284), none⟩, 255⟩]
def o8_37 : List AOper := [⟨.move (.const (.bool false)), (some 14), none⟩]
def o8_38 : List AOper := [⟨.bin .add (.tmp 273) (.const (.int .i64 1)), (some 285), none⟩,
  ⟨.move (.tmp 285), (some 273), none⟩]
def b8_33 : ACode := (.seq (.ops o8_34) (.seq (.cond (.tmp 274) .skip (.exit 2)) (.seq (.block 3 (.seq (.ops o8_35) (.seq (.draw d8_36) (.cond (.tmp 284) (.seq (.ops o8_37) .ret) .skip)))) (.ops o8_38))))
def o8_39 : List AOper := [⟨.move (.const (.bool true)), (some 14), none⟩]
def ir8 : AFn := ⟨286, [.tmp 14], (.seq (.ops o8_0) (.seq (.seq (.ops o8_1) (.cond (.tmp 48) (.seq (.ops o8_2) .ret) .skip)) (.seq (.ops o8_3) (.seq (.draw d8_4) (.seq (.seq (.ops o8_5) (.cond (.tmp 93) (.seq (.ops o8_6) .ret) .skip)) (.seq (.seq (.ops o8_7) (.cond (.tmp 96) (.seq (.ops o8_8) (.seq (.draw d8_9) (.seq (.ops o8_10) (.cond (.tmp 128) (.seq (.draw d8_11) (.seq (.ops o8_12) (.seq (.ops o8_13) (.cond (.tmp 164) (.seq (.ops o8_14) .ret) .skip)))) .skip)))) .skip)) (.seq (.seq (.ops o8_15) (.cond (.tmp 181) (.seq (.ops o8_16) .ret) .skip)) (.seq (.ops o8_17) (.seq (.ops o8_18) (.seq (.seq (.ops o8_19) (.block 0 (.loop b8_20))) (.seq (.ops o8_25) (.seq (.seq (.ops o8_26) (.cond (.tmp 220) (.seq (.ops o8_27) .ret) .skip)) (.seq (.ops o8_28) (.seq (.ops o8_29) (.seq (.seq (.ops o8_30) (.cond (.tmp 270) (.seq (.ops o8_31) .ret) .skip)) (.seq (.seq (.ops o8_32) (.block 2 (.loop b8_33))) (.seq (.ops o8_39) .ret)))))))))))))))))⟩
theorem ir8_eq : fnsOf Try.prog 8 = some ir8 := by kernel_rfl

/-! F32 lookout/lookoutlaw14.changed -/
def o32_0 : List AOper := [⟨.box 26 (.tmp 3), (some 7), none⟩,
  ⟨.move (.const (.slice none 0 0)), (some 8), none⟩]
def o32_1 : List AOper := [⟨.move (.tmp 0), (some 12), none⟩,
  ⟨.append 24 8 1 [(.float .f64 0)] (.const (.slice none 0 0)) (.tmp 12), (some 13), none⟩,
  ⟨.move (.tmp 13), (some 9), none⟩]
def o32_2 : List AOper := [⟨.move (.tmp 9), (some 14), none⟩,
  ⟨.bu .len [(.tmp 14)], (some 15), none⟩,
  ⟨.move (.const (.int .i64 0)), (some 16), none⟩]
def o32_4 : List AOper := [⟨.bin .lss (.tmp 16) (.tmp 15), (some 17), none⟩]
def o32_5 : List AOper := [⟨.move (.tmp 16), (some 18), none⟩,
  ⟨.move (.tmp 18), (some 10), none⟩]
def o32_6 : List AOper := [⟨.move (.tmp 10), (some 19), none⟩,
  ⟨.move (.tmp 2), (some 20), none⟩,
  ⟨.bin .sub (.tmp 19) (.tmp 20), (some 21), none⟩,
  ⟨.move (.tmp 2), (some 22), none⟩,
  ⟨.move (.tmp 10), (some 23), none⟩,
  ⟨.bin .sub (.tmp 22) (.tmp 23), (some 24), none⟩,
  ⟨.bu .max [(.tmp 21), (.tmp 24)], (some 25), none⟩,
  ⟨.move (.tmp 25), (some 11), none⟩]
def o32_7 : List AOper := [⟨.move (.tmp 11), (some 26), none⟩,
  ⟨.fieldAddr 1 (.tmp 7), (some 27), none⟩,
  ⟨.load none (.tmp 27), (some 28), none⟩,
  ⟨.bin .leq (.tmp 26) (.tmp 28), (some 29), none⟩,
  ⟨.move (.tmp 29), (some 30), none⟩,
  ⟨.move (.tmp 11), (some 31), (some (30, false))⟩,
  ⟨.fieldAddr 1 (.tmp 7), (some 32), (some (30, false))⟩,
  ⟨.load none (.tmp 32), (some 33), (some (30, false))⟩,
  ⟨.fieldAddr 2 (.tmp 7), (some 34), (some (30, false))⟩,
  ⟨.load none (.tmp 34), (some 35), (some (30, false))⟩,
  ⟨.bin .add (.tmp 33) (.tmp 35), (some 36), (some (30, false))⟩,
  ⟨.bin .gtr (.tmp 31) (.tmp 36), (some 37), (some (30, false))⟩,
  ⟨.pick (.tmp 30) (.const (.bool true)) (.tmp 37), (some 38), none⟩,
  ⟨.move (.tmp 38), (some 39), none⟩,
  ⟨.move (.tmp 10), (some 40), (some (39, true))⟩,
  ⟨.move (.tmp 1), (some 41), (some (39, true))⟩,
  ⟨.bu .len [(.tmp 41)], (some 42), (some (39, true))⟩,
  ⟨.bin .lss (.tmp 40) (.tmp 42), (some 43), (some (39, true))⟩,
  ⟨.pick (.tmp 39) (.tmp 43) (.const (.bool false)), (some 44), none⟩]
def o32_8 : List AOper := [⟨.move (.tmp 9), (some 45), none⟩,
  ⟨.move (.tmp 10), (some 46), none⟩,
  ⟨.move (.tmp 1), (some 47), none⟩,
  ⟨.move (.tmp 10), (some 48), none⟩,
  ⟨.addrSl 1 (.tmp 47) (.tmp 48), (some 49), none⟩,
  ⟨.load none (.tmp 49), (some 50), none⟩,
  ⟨.addrSl 1 (.tmp 45) (.tmp 46), (some 51), none⟩,
  ⟨.store 1 (.tmp 51) (.tmp 50), none, none⟩]
def o32_9 : List AOper := [⟨.bin .add (.tmp 16) (.const (.int .i64 1)), (some 52), none⟩,
  ⟨.move (.tmp 52), (some 16), none⟩]
def b32_3 : ACode := (.seq (.ops o32_4) (.seq (.cond (.tmp 17) .skip (.exit 0)) (.seq (.block 1 (.seq (.ops o32_5) (.seq (.ops o32_6) (.seq (.ops o32_7) (.cond (.tmp 44) (.ops o32_8) .skip))))) (.ops o32_9))))
def o32_10 : List AOper := [⟨.move (.tmp 9), (some 53), none⟩,
  ⟨.move (.tmp 53), (some 8), none⟩]
def ir32 : AFn := ⟨54, [.tmp 8], (.seq (.ops o32_0) (.seq (.ops o32_1) (.seq (.seq (.ops o32_2) (.block 0 (.loop b32_3))) (.seq (.ops o32_10) .ret))))⟩
theorem ir32_eq : fnsOf Try.prog 32 = some ir32 := by kernel_rfl

/-! F33 lookout/lookoutlaw14.bits -/
def o33_0 : List AOper := [⟨.move (.const (.bool false)), (some 4), none⟩]
def o33_1 : List AOper := [⟨.move (.tmp 0), (some 5), none⟩,
  ⟨.move (.tmp 0), (some 6), none⟩,
  ⟨.bin .neq (.tmp 5) (.tmp 6), (some 7), none⟩,
  ⟨.move (.tmp 7), (some 8), none⟩,
  ⟨.move (.tmp 1), (some 9), (some (8, true))⟩,
  ⟨.move (.tmp 1), (some 10), (some (8, true))⟩,
  ⟨.bin .neq (.tmp 9) (.tmp 10), (some 11), (some (8, true))⟩,
  ⟨.pick (.tmp 8) (.tmp 11) (.const (.bool false)), (some 12), none⟩,
  ⟨.move (.tmp 12), (some 13), none⟩,
  ⟨.move (.tmp 0), (some 14), (some (13, false))⟩,
  ⟨.ext 0 23 [(.tmp 14)], (some 15), (some (13, false))⟩,
  ⟨.move (.tmp 1), (some 16), (some (13, false))⟩,
  ⟨.ext 0 23 [(.tmp 16)], (some 17), (some (13, false))⟩,
  ⟨.bin .eql (.tmp 15) (.tmp 17), (some 18), (some (13, false))⟩,
  ⟨.pick (.tmp 13) (.const (.bool true)) (.tmp 18), (some 19), none⟩,
  ⟨.move (.tmp 19), (some 4), none⟩]
def ir33 : AFn := ⟨20, [.tmp 4], (.seq (.ops o33_0) (.seq (.ops o33_1) .ret))⟩
theorem ir33_eq : fnsOf Try.prog 33 = some ir33 := by kernel_rfl

/-! F34 lookout/lookoutlaw14.tame -/
def o34_0 : List AOper := [⟨.move (.const (.bool false)), (some 2), none⟩]
def o34_1 : List AOper := [⟨.move (.tmp 0), (some 4), none⟩,
  ⟨.ext 5 54 [(.tmp 4)], (some 5), none⟩,
  ⟨.move (.tmp 5), (some 3), none⟩]
def o34_2 : List AOper := [⟨.move (.tmp 0), (some 6), none⟩,
  ⟨.bin .eql (.tmp 6) (.const (.float .f64 0)), (some 7), none⟩,
  ⟨.move (.tmp 7), (some 8), none⟩,
  ⟨.move (.tmp 3), (some 9), (some (8, false))⟩,
  ⟨.bin .geq (.tmp 9) (.const (.float .f64 3256102530588868608)), (some 10), (some (8, false))⟩,
  ⟨.move (.tmp 10), (some 11), (some (8, false))⟩,
  ⟨.move (.tmp 3), (some 12), (some (11, true))⟩,
  ⟨.bin .leq (.tmp 12) (.const (.float .f64 5958262307011166208)), (some 13), (some (11, true))⟩,
  ⟨.pick (.tmp 11) (.tmp 13) (.const (.bool false)), (some 14), (some (8, false))⟩,
  ⟨.pick (.tmp 8) (.const (.bool true)) (.tmp 14), (some 15), none⟩,
  ⟨.move (.tmp 15), (some 2), none⟩]
def ir34 : AFn := ⟨16, [.tmp 2], (.seq (.ops o34_0) (.seq (.ops o34_1) (.seq (.ops o34_2) .ret)))⟩
theorem ir34_eq : fnsOf Try.prog 34 = some ir34 := by kernel_rfl

/-! F35 math.Ldexp -/
def o35_0 : List AOper := [⟨.move (.const (.float .f64 0)), (some 4), none⟩]
def o35_1 : List AOper := [⟨.move (.tmp 0), (some 5), none⟩,
  ⟨.move (.tmp 1), (some 6), none⟩,
  ⟨.call (.func 55) [(.tmp 5), (.tmp 6)], (some 7), none⟩,
  ⟨.move (.tmp 7), (some 4), none⟩]
def o35_2 : List AOper := [⟨.move (.tmp 0), (some 8), none⟩,
  ⟨.move (.tmp 1), (some 9), none⟩,
  ⟨.call (.func 56) [(.tmp 8), (.tmp 9)], (some 10), none⟩,
  ⟨.move (.tmp 10), (some 4), none⟩]
def ir35 : AFn := ⟨11, [.tmp 4], (.seq (.ops o35_0) (.seq (.cond (.const (.bool false)) (.seq (.ops o35_1) .ret) .skip) (.seq (.ops o35_2) .ret)))⟩
theorem ir35_eq : fnsOf Try.prog 35 = some ir35 := by kernel_rfl

/-! F56 math.ldexp -/
def o56_0 : List AOper := [⟨.move (.const (.float .f64 0)), (some 4), none⟩]
def o56_1 : List AOper := [⟨.move (.tmp 0), (some 9), none⟩,
  ⟨.bin .eql (.tmp 9) (.const (.float .f64 0)), (some 10), none⟩,
  ⟨.move (.tmp 10), (some 8), none⟩]
def o56_2 : List AOper := [⟨.move (.tmp 0), (some 11), none⟩,
  ⟨.move (.tmp 11), (some 4), none⟩]
def o56_3 : List AOper := [⟨.move (.tmp 0), (some 13), none⟩,
  ⟨.call (.func 67) [(.tmp 13), (.const (.int .i64 0))], (some 14), none⟩,
  ⟨.move (.tmp 14), (some 15), none⟩,
  ⟨.move (.tmp 0), (some 16), (some (15, false))⟩,
  ⟨.call (.func 64) [(.tmp 16)], (some 17), (some (15, false))⟩,
  ⟨.pick (.tmp 15) (.const (.bool true)) (.tmp 17), (some 18), none⟩,
  ⟨.move (.tmp 18), (some 12), none⟩]
def o56_4 : List AOper := [⟨.move (.tmp 0), (some 19), none⟩,
  ⟨.move (.tmp 19), (some 4), none⟩]
def o56_5 : List AOper := [⟨.move (.tmp 0), (some 21), none⟩,
  ⟨.call (.func 75) [(.tmp 21)], (some 22), none⟩,
  ⟨.move (.tmp 22), (some 20), none⟩,
  ⟨.extract (.tmp 20) 0, (some 23), none⟩,
  ⟨.extract (.tmp 20) 1, (some 24), none⟩,
  ⟨.move (.tmp 23), (some 0), none⟩,
  ⟨.move (.tmp 24), (some 5), none⟩]
def o56_6 : List AOper := [⟨.move (.tmp 1), (some 25), none⟩,
  ⟨.move (.tmp 5), (some 26), none⟩,
  ⟨.bin .add (.tmp 25) (.tmp 26), (some 27), none⟩,
  ⟨.move (.tmp 27), (some 1), none⟩]
def o56_7 : List AOper := [⟨.move (.tmp 0), (some 28), none⟩,
  ⟨.ext 0 23 [(.tmp 28)], (some 29), none⟩,
  ⟨.move (.tmp 29), (some 6), none⟩]
def o56_8 : List AOper := [⟨.move (.tmp 1), (some 30), none⟩,
  ⟨.move (.tmp 6), (some 31), none⟩,
  ⟨.bin .shr (.tmp 31) (.const (.int .u64 52)), (some 32), none⟩,
  ⟨.conv (.toInt .i64) (.tmp 32), (some 33), none⟩,
  ⟨.bin .and (.tmp 33) (.const (.int .i64 2047)), (some 34), none⟩,
  ⟨.bin .sub (.tmp 34) (.const (.int .i64 1023)), (some 35), none⟩,
  ⟨.bin .add (.tmp 30) (.tmp 35), (some 36), none⟩,
  ⟨.move (.tmp 36), (some 1), none⟩]
def o56_9 : List AOper := [⟨.move (.tmp 1), (some 37), none⟩,
  ⟨.bin .lss (.tmp 37) (.const (.int .i64 (-1075))), (some 38), none⟩]
def o56_10 : List AOper := [⟨.move (.tmp 0), (some 39), none⟩,
  ⟨.call (.func 76) [(.const (.float .f64 0)), (.tmp 39)], (some 40), none⟩,
  ⟨.move (.tmp 40), (some 4), none⟩]
def o56_11 : List AOper := [⟨.move (.tmp 1), (some 41), none⟩,
  ⟨.bin .gtr (.tmp 41) (.const (.int .i64 1023)), (some 42), none⟩]
def o56_12 : List AOper := [⟨.move (.tmp 0), (some 43), none⟩,
  ⟨.bin .lss (.tmp 43) (.const (.float .f64 0)), (some 44), none⟩]
def o56_13 : List AOper := [⟨.call (.func 59) [(.const (.int .i64 (-1)))], (some 45), none⟩,
  ⟨.move (.tmp 45), (some 4), none⟩]
def o56_14 : List AOper := [⟨.call (.func 59) [(.const (.int .i64 1))], (some 46), none⟩,
  ⟨.move (.tmp 46), (some 4), none⟩]
def o56_15 : List AOper := [⟨.move (.const (.float .f64 4607182418800017408)), (some 7), none⟩]
def o56_16 : List AOper := [⟨.move (.tmp 1), (some 47), none⟩,
  ⟨.bin .lss (.tmp 47) (.const (.int .i64 (-1022))), (some 48), none⟩]
def o56_17 : List AOper := [⟨.move (.tmp 1), (some 49), none⟩,
  ⟨.bin .add (.tmp 49) (.const (.int .i64 53)), (some 50), none⟩,
  ⟨.move (.tmp 50), (some 1), none⟩]
def o56_18 : List AOper := [⟨.move (.const (.float .f64 4368491638549381120)), (some 7), none⟩]
def o56_19 : List AOper := [⟨.move (.tmp 6), (some 51), none⟩,
  ⟨.bin .andNot (.tmp 51) (.const (.int .u64 9218868437227405312)), (some 52), none⟩,
  ⟨.move (.tmp 52), (some 6), none⟩]
def o56_20 : List AOper := [⟨.move (.tmp 6), (some 53), none⟩,
  ⟨.move (.tmp 1), (some 54), none⟩,
  ⟨.bin .add (.tmp 54) (.const (.int .i64 1023)), (some 55), none⟩,
  ⟨.conv (.toInt .u64) (.tmp 55), (some 56), none⟩,
  ⟨.bin .shl (.tmp 56) (.const (.int .u64 52)), (some 57), none⟩,
  ⟨.bin .or (.tmp 53) (.tmp 57), (some 58), none⟩,
  ⟨.move (.tmp 58), (some 6), none⟩]
def o56_21 : List AOper := [⟨.move (.tmp 7), (some 59), none⟩,
  ⟨.move (.tmp 6), (some 60), none⟩,
  ⟨.ext 1 74 [(.tmp 60)], (some 61), none⟩,
  ⟨.bin .mul (.tmp 59) (.tmp 61), (some 62), none⟩,
  ⟨.move (.tmp 62), (some 4), none⟩]
def ir56 : AFn := ⟨63, [.tmp 4], (.seq (.ops o56_0) (.seq (.block 0 (.seq (.ops o56_1) (.cond (.tmp 8) (.seq (.ops o56_2) .ret) (.seq (.ops o56_3) (.cond (.tmp 12) (.seq (.ops o56_4) .ret) .skip))))) (.seq (.ops o56_5) (.seq (.ops o56_6) (.seq (.ops o56_7) (.seq (.ops o56_8) (.seq (.seq (.ops o56_9) (.cond (.tmp 38) (.seq (.ops o56_10) .ret) .skip)) (.seq (.seq (.ops o56_11) (.cond (.tmp 42) (.seq (.seq (.ops o56_12) (.cond (.tmp 44) (.seq (.ops o56_13) .ret) .skip)) (.seq (.ops o56_14) .ret)) .skip)) (.seq (.ops o56_15) (.seq (.seq (.ops o56_16) (.cond (.tmp 48) (.seq (.ops o56_17) (.ops o56_18)) .skip)) (.seq (.ops o56_19) (.seq (.ops o56_20) (.seq (.ops o56_21) .ret)))))))))))))⟩
theorem ir56_eq : fnsOf Try.prog 56 = some ir56 := by kernel_rfl

/-! F67 math.IsInf -/
def o67_0 : List AOper := [⟨.move (.const (.bool false)), (some 4), none⟩]
def o67_1 : List AOper := [⟨.move (.tmp 1), (some 5), none⟩,
  ⟨.bin .eql (.tmp 5) (.const (.int .i64 0)), (some 6), none⟩]
def o67_2 : List AOper := [⟨.move (.tmp 0), (some 7), none⟩,
  ⟨.ext 5 54 [(.tmp 7)], (some 8), none⟩,
  ⟨.move (.tmp 8), (some 0), none⟩]
def o67_3 : List AOper := [⟨.move (.tmp 1), (some 9), none⟩,
  ⟨.bin .lss (.tmp 9) (.const (.int .i64 0)), (some 10), none⟩]
def o67_4 : List AOper := [⟨.move (.tmp 0), (some 11), none⟩,
  ⟨.un .neg (.tmp 11), (some 12), none⟩,
  ⟨.move (.tmp 12), (some 0), none⟩]
def o67_5 : List AOper := [⟨.move (.tmp 0), (some 13), none⟩,
  ⟨.bin .gtr (.tmp 13) (.const (.float .f64 9218868437227405311)), (some 14), none⟩,
  ⟨.move (.tmp 14), (some 4), none⟩]
def ir67 : AFn := ⟨15, [.tmp 4], (.seq (.ops o67_0) (.seq (.seq (.ops o67_1) (.cond (.tmp 6) (.ops o67_2) (.seq (.ops o67_3) (.cond (.tmp 10) (.ops o67_4) .skip)))) (.seq (.ops o67_5) .ret)))⟩
theorem ir67_eq : fnsOf Try.prog 67 = some ir67 := by kernel_rfl

/-! F75 math.normalize -/
def o75_0 : List AOper := [⟨.move (.const (.float .f64 0)), (some 2), none⟩,
  ⟨.move (.const (.int .i64 0)), (some 3), none⟩]
def o75_1 : List AOper := [⟨.move (.tmp 0), (some 4), none⟩,
  ⟨.ext 5 54 [(.tmp 4)], (some 5), none⟩,
  ⟨.bin .lss (.tmp 5) (.const (.float .f64 4503599627370496)), (some 6), none⟩]
def o75_2 : List AOper := [⟨.move (.tmp 0), (some 7), none⟩,
  ⟨.bin .mul (.tmp 7) (.const (.float .f64 4841369599423283200)), (some 8), none⟩,
  ⟨.move (.tmp 8), (some 2), none⟩,
  ⟨.move (.const (.int .i64 (-52))), (some 3), none⟩]
def o75_3 : List AOper := [⟨.move (.tmp 0), (some 9), none⟩,
  ⟨.move (.tmp 9), (some 2), none⟩,
  ⟨.move (.const (.int .i64 0)), (some 3), none⟩]
def ir75 : AFn := ⟨10, [.tmp 2, .tmp 3], (.seq (.ops o75_0) (.seq (.seq (.ops o75_1) (.cond (.tmp 6) (.seq (.ops o75_2) .ret) .skip)) (.seq (.ops o75_3) .ret)))⟩
theorem ir75_eq : fnsOf Try.prog 75 = some ir75 := by kernel_rfl


end Go.Proofs.Ytfjdihfflghfpaa
