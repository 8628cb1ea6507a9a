/- The small machine's text of functions of the seat. -/
import Derived.Test.YtpphomoijlilfaaRows
import Derived.Test.YtpphomoijlilfaaVam25
import Derived.KernelRfl
namespace Go.Proofs.Ytpphomoijlilfaa
open Go Go.Vam
def o4_0 : List AOper := [⟨.move (.const (.bool false)), (some 4), none⟩]
def o4_1 : List AOper := [⟨.move (.tmp 0), (some 13), none⟩,
  ⟨.call (.func 16) [(.tmp 13)], (some 14), none⟩,
  ⟨.move (.tmp 14), (some 5), none⟩]
def o4_2 : List AOper := [⟨.move (.tmp 5), (some 15), none⟩,
  ⟨.move (.tmp 1), (some 16), none⟩,
  ⟨.call (.func 17) [(.tmp 15), (.tmp 16)], (some 17), none⟩,
  ⟨.move (.tmp 17), (some 6), none⟩]
def o4_3 : List AOper := [⟨.move (.tmp 5), (some 18), none⟩,
  ⟨.move (.tmp 1), (some 19), none⟩,
  ⟨.call (.func 17) [(.tmp 18), (.tmp 19)], (some 20), none⟩,
  ⟨.move (.tmp 20), (some 7), none⟩]
def o4_4 : List AOper := [⟨.move (.tmp 0), (some 21), none⟩,
  ⟨.move (.tmp 1), (some 22), none⟩,
  ⟨.call (.func 18) [(.tmp 21), (.tmp 22)], (some 23), none⟩,
  ⟨.move (.tmp 23), (some 8), none⟩]
def o4_5 : List AOper := [⟨.move (.tmp 6), (some 24), none⟩,
  ⟨.bu .len [(.tmp 24)], (some 25), none⟩,
  ⟨.move (.tmp 8), (some 26), none⟩,
  ⟨.bu .len [(.tmp 26)], (some 27), none⟩,
  ⟨.bin .neq (.tmp 25) (.tmp 27), (some 28), none⟩,
  ⟨.move (.tmp 28), (some 29), none⟩,
  ⟨.move (.tmp 7), (some 30), (some (29, false))⟩,
  ⟨.bu .len [(.tmp 30)], (some 31), (some (29, false))⟩,
  ⟨.move (.tmp 8), (some 32), (some (29, false))⟩,
  ⟨.bu .len [(.tmp 32)], (some 33), (some (29, false))⟩,
  ⟨.bin .neq (.tmp 31) (.tmp 33), (some 34), (some (29, false))⟩,
  ⟨.pick (.tmp 29) (.const (.bool true)) (.tmp 34), (some 35), none⟩]
def o4_6 : List AOper := [⟨.move (.const (.bool false)), (some 4), none⟩]
def o4_7 : List AOper := [⟨.move (.const (.int .i64 0)), (some 9), none⟩]
def o4_9 : List AOper := [⟨.move (.tmp 9), (some 36), none⟩,
  ⟨.move (.tmp 6), (some 37), none⟩,
  ⟨.bu .len [(.tmp 37)], (some 38), none⟩,
  ⟨.bin .lss (.tmp 36) (.tmp 38), (some 39), none⟩]
def d4_10 : List DOper := [⟨⟨.move (.tmp 6), (some 42), none⟩, 0⟩,
  ⟨⟨.move (.tmp 9), (some 43), none⟩, 0⟩,
  ⟨⟨.addrSl 1 (.tmp 42) (.tmp 43), (some 44), none⟩, 3⟩,
  ⟨⟨.load none (.tmp 44), (some 45), none⟩, 7⟩,
  ⟨⟨.move (.tmp 8), (some 46), none⟩, 0⟩,
  ⟨⟨.move (.tmp 9), (some 47), none⟩, 0⟩,
  ⟨⟨.addrSl 1 (.tmp 46) (.tmp 47), (some 48), none⟩, 48⟩,
  ⟨⟨.load none (.tmp 48), (some 49), none⟩, 112⟩,
  ⟨⟨.call (.func 13) [(.tmp 45), (.tmp 49)], (some 50), none⟩, 255⟩,
  ⟨⟨.un .not (.tmp 50), (some 51), none⟩, 511⟩]
def o4_11 : List AOper := [⟨.move (.const (.bool false)), (some 4), none⟩]
def o4_12 : List AOper := [⟨.move (.const (.int .i64 0)), (some 10), none⟩]
def o4_14 : List AOper := [⟨.move (.tmp 10), (some 52), none⟩,
  ⟨.move (.tmp 6), (some 53), none⟩,
  ⟨.move (.tmp 9), (some 54), none⟩,
  ⟨.addrSl 1 (.tmp 53) (.tmp 54), (some 55), none⟩,
  ⟨.load none (.tmp 55), (some 56), none⟩,
  ⟨.bu .len [(.tmp 56)], (some 57), none⟩,
  ⟨.bin .lss (.tmp 52) (.tmp 57), (some 58), none⟩]
def o4_15 : List AOper := [⟨.move (.tmp 6), (some 61), none⟩,
  ⟨.move (.tmp 9), (some 62), none⟩,
  ⟨.addrSl 1 (.tmp 61) (.tmp 62), (some 63), none⟩,
  ⟨.load none (.tmp 63), (some 64), none⟩,
  ⟨.move (.tmp 10), (some 65), none⟩,
  ⟨.addrSl 3 (.tmp 64) (.tmp 65), (some 66), none⟩,
  ⟨.fieldAddr 1 (.tmp 66), (some 67), none⟩,
  ⟨.store 1 (.tmp 67) (.const (.int .i64 (-9))), none, none⟩]
def o4_16 : List AOper := [⟨.move (.tmp 10), (some 59), none⟩,
  ⟨.bin .add (.tmp 59) (.const (.int .i64 1)), (some 60), none⟩,
  ⟨.move (.tmp 60), (some 10), none⟩]
def b4_13 : ACode := (.seq (.seq (.ops o4_14) (.cond (.tmp 58) .skip (.exit 2))) (.seq (.block 3 (.ops o4_15)) (.ops o4_16)))
def o4_17 : List AOper := [⟨.move (.const (.int .i64 0)), (some 11), none⟩]
def o4_19 : List AOper := [⟨.move (.tmp 11), (some 68), none⟩,
  ⟨.bin .lss (.tmp 68) (.const (.int .i64 5)), (some 69), none⟩]
def o4_20 : List AOper := [⟨.move (.tmp 6), (some 72), none⟩,
  ⟨.move (.tmp 9), (some 73), none⟩,
  ⟨.move (.tmp 6), (some 74), none⟩,
  ⟨.move (.tmp 9), (some 75), none⟩,
  ⟨.addrSl 1 (.tmp 74) (.tmp 75), (some 76), none⟩,
  ⟨.load none (.tmp 76), (some 77), none⟩,
  ⟨.build [(.int .i64 0), (.int .i64 0), (.float .f64 0)] [(1, 1, (.const (.int .i64 (-8))))], (some 78), none⟩,
  ⟨.buildSlice 29 3 [(.int .i64 0), (.int .i64 0), (.float .f64 0)] 1 [(0, (.tmp 78))], (some 79), none⟩,
  ⟨.append 29 24 3 [(.int .i64 0), (.int .i64 0), (.float .f64 0)] (.tmp 77) (.tmp 79), (some 80), none⟩,
  ⟨.addrSl 1 (.tmp 72) (.tmp 73), (some 81), none⟩,
  ⟨.store 1 (.tmp 81) (.tmp 80), none, none⟩]
def o4_21 : List AOper := [⟨.move (.tmp 11), (some 70), none⟩,
  ⟨.bin .add (.tmp 70) (.const (.int .i64 1)), (some 71), none⟩,
  ⟨.move (.tmp 71), (some 11), none⟩]
def b4_18 : ACode := (.seq (.seq (.ops o4_19) (.cond (.tmp 69) .skip (.exit 4))) (.seq (.block 5 (.ops o4_20)) (.ops o4_21)))
def o4_22 : List AOper := [⟨.move (.tmp 9), (some 40), none⟩,
  ⟨.bin .add (.tmp 40) (.const (.int .i64 1)), (some 41), none⟩,
  ⟨.move (.tmp 41), (some 9), none⟩]
def b4_8 : ACode := (.seq (.seq (.ops o4_9) (.cond (.tmp 39) .skip (.exit 0))) (.seq (.block 1 (.seq (.seq (.draw d4_10) (.cond (.tmp 51) (.seq (.ops o4_11) .ret) .skip)) (.seq (.seq (.ops o4_12) (.block 2 (.loop b4_13))) (.seq (.ops o4_17) (.block 4 (.loop b4_18)))))) (.ops o4_22)))
def o4_23 : List AOper := [⟨.move (.const (.int .i64 0)), (some 12), none⟩]
def o4_25 : List AOper := [⟨.move (.tmp 12), (some 82), none⟩,
  ⟨.move (.tmp 7), (some 83), none⟩,
  ⟨.bu .len [(.tmp 83)], (some 84), none⟩,
  ⟨.bin .lss (.tmp 82) (.tmp 84), (some 85), none⟩]
def d4_26 : List DOper := [⟨⟨.move (.tmp 7), (some 88), none⟩, 0⟩,
  ⟨⟨.move (.tmp 12), (some 89), none⟩, 0⟩,
  ⟨⟨.addrSl 1 (.tmp 88) (.tmp 89), (some 90), none⟩, 3⟩,
  ⟨⟨.load none (.tmp 90), (some 91), none⟩, 7⟩,
  ⟨⟨.move (.tmp 8), (some 92), none⟩, 0⟩,
  ⟨⟨.move (.tmp 12), (some 93), none⟩, 0⟩,
  ⟨⟨.addrSl 1 (.tmp 92) (.tmp 93), (some 94), none⟩, 48⟩,
  ⟨⟨.load none (.tmp 94), (some 95), none⟩, 112⟩,
  ⟨⟨.call (.func 13) [(.tmp 91), (.tmp 95)], (some 96), none⟩, 255⟩,
  ⟨⟨.un .not (.tmp 96), (some 97), none⟩, 511⟩,
  ⟨⟨.move (.tmp 97), (some 98), none⟩, 1023⟩,
  ⟨⟨.move (.tmp 6), (some 99), (some (98, false))⟩, 2047⟩,
  ⟨⟨.move (.tmp 12), (some 100), (some (98, false))⟩, 2047⟩,
  ⟨⟨.addrSl 1 (.tmp 99) (.tmp 100), (some 101), (some (98, false))⟩, 8191⟩,
  ⟨⟨.load none (.tmp 101), (some 102), (some (98, false))⟩, 16383⟩,
  ⟨⟨.bu .len [(.tmp 102)], (some 103), (some (98, false))⟩, 32767⟩,
  ⟨⟨.move (.tmp 8), (some 104), (some (98, false))⟩, 2047⟩,
  ⟨⟨.move (.tmp 12), (some 105), (some (98, false))⟩, 2047⟩,
  ⟨⟨.addrSl 1 (.tmp 104) (.tmp 105), (some 106), (some (98, false))⟩, 198655⟩,
  ⟨⟨.load none (.tmp 106), (some 107), (some (98, false))⟩, 460799⟩,
  ⟨⟨.bu .len [(.tmp 107)], (some 108), (some (98, false))⟩, 985087⟩,
  ⟨⟨.bin .add (.tmp 108) (.const (.int .i64 5)), (some 109), (some (98, false))⟩, 2033663⟩,
  ⟨⟨.bin .neq (.tmp 103) (.tmp 109), (some 110), (some (98, false))⟩, 4194303⟩,
  ⟨⟨.pick (.tmp 98) (.const (.bool true)) (.tmp 110), (some 111), none⟩, 8388607⟩,
  ⟨⟨.move (.tmp 111), (some 112), none⟩, 16777215⟩,
  ⟨⟨.move (.tmp 6), (some 113), (some (112, false))⟩, 33554431⟩,
  ⟨⟨.move (.tmp 12), (some 114), (some (112, false))⟩, 33554431⟩,
  ⟨⟨.addrSl 1 (.tmp 113) (.tmp 114), (some 115), (some (112, false))⟩, 134217727⟩,
  ⟨⟨.load none (.tmp 115), (some 116), (some (112, false))⟩, 268435455⟩,
  ⟨⟨.addrSl 3 (.tmp 116) (.const (.int .i64 0)), (some 117), (some (112, false))⟩, 536870911⟩,
  ⟨⟨.fieldAddr 1 (.tmp 117), (some 118), (some (112, false))⟩, 1073741823⟩,
  ⟨⟨.load none (.tmp 118), (some 119), (some (112, false))⟩, 2147483647⟩,
  ⟨⟨.bin .neq (.tmp 119) (.const (.int .i64 (-9))), (some 120), (some (112, false))⟩, 4294967295⟩,
  ⟨⟨.pick (.tmp 112) (.const (.bool true)) (.tmp 120), (some 121), none⟩, 8589934591⟩]
def o4_27 : List AOper := [⟨.move (.const (.bool false)), (some 4), none⟩]
def o4_28 : List AOper := [⟨.move (.tmp 12), (some 86), none⟩,
  ⟨.bin .add (.tmp 86) (.const (.int .i64 1)), (some 87), none⟩,
  ⟨.move (.tmp 87), (some 12), none⟩]
def b4_24 : ACode := (.seq (.seq (.ops o4_25) (.cond (.tmp 85) .skip (.exit 6))) (.seq (.block 7 (.seq (.draw d4_26) (.cond (.tmp 121) (.seq (.ops o4_27) .ret) .skip))) (.ops o4_28)))
def o4_29 : List AOper := [⟨.move (.tmp 5), (some 122), none⟩,
  ⟨.move (.tmp 0), (some 123), none⟩,
  ⟨.call (.func 19) [(.tmp 122), (.tmp 123)], (some 124), none⟩,
  ⟨.move (.tmp 124), (some 125), none⟩,
  ⟨.call (.func 15) [], (some 126), (some (125, true))⟩,
  ⟨.pick (.tmp 125) (.tmp 126) (.const (.bool false)), (some 127), none⟩,
  ⟨.move (.tmp 127), (some 4), none⟩]
def ir4 : AFn := ⟨128, [.tmp 4], (.seq (.ops o4_0) (.seq (.ops o4_1) (.seq (.ops o4_2) (.seq (.ops o4_3) (.seq (.ops o4_4) (.seq (.seq (.ops o4_5) (.cond (.tmp 35) (.seq (.ops o4_6) .ret) .skip)) (.seq (.seq (.ops o4_7) (.block 0 (.loop b4_8))) (.seq (.seq (.ops o4_23) (.block 6 (.loop b4_24))) (.seq (.ops o4_29) .ret)))))))))⟩
theorem ir4_eq : fnsOf Try.prog 4 = some ir4 := by kernel_rfl
end Go.Proofs.Ytpphomoijlilfaa
