/- The small machine's text of functions of the seat. -/
import Derived.Test.YtfjdihfflghfpaaRows
import Derived.Test.YtfjdihfflghfpaaVam25
import Derived.KernelRfl
namespace Go.Proofs.Ytfjdihfflghfpaa
open Go Go.Vam

/-! F4 lookout/lookoutlaw03.SumsFloats -/
def o4_0 : List AOper := [⟨.move (.const (.bool false)), (some 4), none⟩]
def o4_1 : List AOper := [⟨.buildSlice 24 1 [(.float .f64 0)] 0 [], (some 13), none⟩,
  ⟨.move (.tmp 0), (some 14), none⟩,
  ⟨.append 24 8 1 [(.float .f64 0)] (.tmp 13) (.tmp 14), (some 15), none⟩,
  ⟨.buildSlice 24 1 [(.float .f64 0)] 1 [(0, (.const (.float .f64 4619567317775286272)))], (some 16), none⟩,
  ⟨.append 24 8 1 [(.float .f64 0)] (.tmp 15) (.tmp 16), (some 17), none⟩,
  ⟨.move (.tmp 17), (some 5), none⟩]
def o4_2 : List AOper := [⟨.move (.tmp 5), (some 18), none⟩,
  ⟨.move (.tmp 0), (some 19), none⟩,
  ⟨.bu .len [(.tmp 19)], (some 20), none⟩,
  ⟨.slSl 1 (.tmp 18) none (some (.tmp 20)) none, (some 21), none⟩,
  ⟨.move (.tmp 21), (some 6), none⟩]
def o4_3 : List AOper := [⟨.move (.tmp 6), (some 22), none⟩,
  ⟨.call (.func 18) [(.tmp 22)], (some 23), none⟩,
  ⟨.move (.tmp 0), (some 24), none⟩,
  ⟨.call (.func 19) [(.tmp 24)], (some 25), none⟩,
  ⟨.call (.func 14) [(.tmp 23), (.tmp 25)], (some 26), none⟩,
  ⟨.un .not (.tmp 26), (some 27), none⟩]
def o4_4 : List AOper := [⟨.move (.const (.bool false)), (some 4), none⟩]
def o4_5 : List AOper := [⟨.move (.tmp 1), (some 28), none⟩,
  ⟨.move (.tmp 1), (some 29), none⟩,
  ⟨.move (.tmp 0), (some 30), none⟩,
  ⟨.bu .len [(.tmp 30)], (some 31), none⟩,
  ⟨.bin .add (.tmp 31) (.const (.int .i64 1)), (some 32), none⟩,
  ⟨.bin .rem (.tmp 29) (.tmp 32), (some 33), none⟩,
  ⟨.move (.tmp 0), (some 34), none⟩,
  ⟨.bu .len [(.tmp 34)], (some 35), none⟩,
  ⟨.bin .sub (.tmp 35) (.const (.int .i64 1)), (some 36), none⟩,
  ⟨.move (.tmp 0), (some 37), none⟩,
  ⟨.bu .len [(.tmp 37)], (some 38), none⟩,
  ⟨.buildSlice 3 1 [(.int .i64 0)] 6 [(0, (.tmp 28)), (1, (.tmp 33)), (2, (.const (.int .i64 (-1)))), (3, (.const (.int .i64 0))), (4, (.tmp 36)), (5, (.tmp 38))], (some 39), none⟩,
  ⟨.move (.tmp 39), (some 7), none⟩]
def o4_6 : List AOper := [⟨.move (.const (.int .i64 0)), (some 8), none⟩]
def o4_8 : List AOper := [⟨.move (.tmp 8), (some 40), none⟩,
  ⟨.move (.tmp 7), (some 41), none⟩,
  ⟨.bu .len [(.tmp 41)], (some 42), none⟩,
  ⟨.bin .lss (.tmp 40) (.tmp 42), (some 43), none⟩]
def o4_9 : List AOper := [⟨.move (.tmp 6), (some 47), none⟩,
  ⟨.move (.tmp 7), (some 48), none⟩,
  ⟨.move (.tmp 8), (some 49), none⟩,
  ⟨.addrSl 1 (.tmp 48) (.tmp 49), (some 50), none⟩,
  ⟨.load none (.tmp 50), (some 51), none⟩,
  ⟨.call (.func 20) [(.tmp 47), (.tmp 51)], (some 52), none⟩,
  ⟨.move (.tmp 52), (some 46), none⟩,
  ⟨.extract (.tmp 46) 0, (some 53), none⟩,
  ⟨.extract (.tmp 46) 1, (some 54), none⟩,
  ⟨.move (.tmp 53), (some 9), none⟩,
  ⟨.move (.tmp 54), (some 10), none⟩]
def o4_10 : List AOper := [⟨.move (.tmp 0), (some 56), none⟩,
  ⟨.move (.tmp 7), (some 57), none⟩,
  ⟨.move (.tmp 8), (some 58), none⟩,
  ⟨.addrSl 1 (.tmp 57) (.tmp 58), (some 59), none⟩,
  ⟨.load none (.tmp 59), (some 60), none⟩,
  ⟨.call (.func 21) [(.tmp 56), (.tmp 60)], (some 61), none⟩,
  ⟨.move (.tmp 61), (some 55), none⟩,
  ⟨.extract (.tmp 55) 0, (some 62), none⟩,
  ⟨.extract (.tmp 55) 1, (some 63), none⟩,
  ⟨.move (.tmp 62), (some 11), none⟩,
  ⟨.move (.tmp 63), (some 12), none⟩]
def o4_11 : List AOper := [⟨.move (.tmp 10), (some 64), none⟩,
  ⟨.move (.tmp 12), (some 65), none⟩,
  ⟨.bin .neq (.tmp 64) (.tmp 65), (some 66), none⟩,
  ⟨.move (.tmp 66), (some 67), none⟩,
  ⟨.move (.tmp 9), (some 68), (some (67, false))⟩,
  ⟨.move (.tmp 11), (some 69), (some (67, false))⟩,
  ⟨.call (.func 14) [(.tmp 68), (.tmp 69)], (some 70), (some (67, false))⟩,
  ⟨.un .not (.tmp 70), (some 71), (some (67, false))⟩,
  ⟨.pick (.tmp 67) (.const (.bool true)) (.tmp 71), (some 72), none⟩]
def o4_12 : List AOper := [⟨.move (.const (.bool false)), (some 4), none⟩]
def o4_13 : List AOper := [⟨.move (.tmp 8), (some 44), none⟩,
  ⟨.bin .add (.tmp 44) (.const (.int .i64 1)), (some 45), none⟩,
  ⟨.move (.tmp 45), (some 8), none⟩]
def b4_7 : ACode := (.seq (.seq (.ops o4_8) (.cond (.tmp 43) .skip (.exit 0))) (.seq (.block 1 (.seq (.ops o4_9) (.seq (.ops o4_10) (.seq (.ops o4_11) (.cond (.tmp 72) (.seq (.ops o4_12) .ret) .skip))))) (.ops o4_13)))
def o4_14 : List AOper := [⟨.move (.tmp 6), (some 73), none⟩,
  ⟨.move (.tmp 0), (some 74), none⟩,
  ⟨.call (.func 22) [(.tmp 73), (.tmp 74)], (some 75), none⟩,
  ⟨.move (.tmp 75), (some 76), none⟩,
  ⟨.move (.tmp 5), (some 77), (some (76, true))⟩,
  ⟨.move (.tmp 0), (some 78), (some (76, true))⟩,
  ⟨.bu .len [(.tmp 78)], (some 79), (some (76, true))⟩,
  ⟨.addrSl 1 (.tmp 77) (.tmp 79), (some 80), (some (76, true))⟩,
  ⟨.load none (.tmp 80), (some 81), (some (76, true))⟩,
  ⟨.ext 0 23 [(.tmp 81)], (some 82), (some (76, true))⟩,
  ⟨.ext 0 23 [(.const (.float .f64 4619567317775286272))], (some 83), (some (76, true))⟩,
  ⟨.bin .eql (.tmp 82) (.tmp 83), (some 84), (some (76, true))⟩,
  ⟨.pick (.tmp 76) (.tmp 84) (.const (.bool false)), (some 85), none⟩,
  ⟨.move (.tmp 85), (some 86), none⟩,
  ⟨.call (.func 24) [], (some 87), (some (86, true))⟩,
  ⟨.pick (.tmp 86) (.tmp 87) (.const (.bool false)), (some 88), none⟩,
  ⟨.move (.tmp 88), (some 4), none⟩]
def ir4 : AFn := ⟨89, [.tmp 4], (.seq (.ops o4_0) (.seq (.ops o4_1) (.seq (.ops o4_2) (.seq (.seq (.ops o4_3) (.cond (.tmp 27) (.seq (.ops o4_4) .ret) .skip)) (.seq (.ops o4_5) (.seq (.seq (.ops o4_6) (.block 0 (.loop b4_7))) (.seq (.ops o4_14) .ret)))))))⟩
theorem ir4_eq : fnsOf Try.prog 4 = some ir4 := by kernel_rfl

/-! F5 lookout/lookoutlaw03.SumsSorted -/
def o5_0 : List AOper := [⟨.move (.const (.bool false)), (some 2), none⟩]
def o5_1 : List AOper := [⟨.move (.tmp 0), (some 10), none⟩,
  ⟨.move (.tmp 0), (some 11), none⟩,
  ⟨.bu .len [(.tmp 11)], (some 12), none⟩,
  ⟨.bu .min [(.tmp 12), (.const (.int .i64 300))], (some 13), none⟩,
  ⟨.slSl 1 (.tmp 10) none (some (.tmp 13)) none, (some 14), none⟩,
  ⟨.move (.tmp 14), (some 0), none⟩]
def o5_2 : List AOper := [⟨.move (.const (.slice none 0 0)), (some 3), none⟩]
def o5_3 : List AOper := [⟨.move (.const (.int .i64 0)), (some 4), none⟩]
def o5_5 : List AOper := [⟨.move (.tmp 4), (some 15), none⟩,
  ⟨.move (.tmp 0), (some 16), none⟩,
  ⟨.bu .len [(.tmp 16)], (some 17), none⟩,
  ⟨.bin .lss (.tmp 15) (.tmp 17), (some 18), none⟩]
def o5_6 : List AOper := [⟨.move (.tmp 0), (some 22), none⟩,
  ⟨.move (.tmp 4), (some 23), none⟩,
  ⟨.call (.func 20) [(.tmp 22), (.tmp 23)], (some 24), none⟩,
  ⟨.move (.tmp 24), (some 21), none⟩,
  ⟨.extract (.tmp 21) 0, (some 25), none⟩,
  ⟨.extract (.tmp 21) 1, (some 26), none⟩,
  ⟨.move (.tmp 25), (some 5), none⟩,
  ⟨.move (.tmp 26), (some 6), none⟩]
def o5_7 : List AOper := [⟨.move (.tmp 6), (some 27), none⟩,
  ⟨.bin .neq (.tmp 27) (.const (.int .i64 0)), (some 28), none⟩,
  ⟨.move (.tmp 28), (some 29), none⟩,
  ⟨.move (.tmp 4), (some 30), (some (29, false))⟩,
  ⟨.bin .gtr (.tmp 30) (.const (.int .i64 0)), (some 31), (some (29, false))⟩,
  ⟨.move (.tmp 31), (some 32), (some (29, false))⟩,
  ⟨.move (.tmp 3), (some 33), (some (32, true))⟩,
  ⟨.move (.tmp 4), (some 34), (some (32, true))⟩,
  ⟨.bin .sub (.tmp 34) (.const (.int .i64 1)), (some 35), (some (32, true))⟩,
  ⟨.addrSl 1 (.tmp 33) (.tmp 35), (some 36), (some (32, true))⟩,
  ⟨.load none (.tmp 36), (some 37), (some (32, true))⟩,
  ⟨.move (.tmp 5), (some 38), (some (32, true))⟩,
  ⟨.call (.func 25) [(.tmp 37), (.tmp 38)], (some 39), (some (32, true))⟩,
  ⟨.bin .gtr (.tmp 39) (.const (.int .i64 0)), (some 40), (some (32, true))⟩,
  ⟨.pick (.tmp 32) (.tmp 40) (.const (.bool false)), (some 41), (some (29, false))⟩,
  ⟨.pick (.tmp 29) (.const (.bool true)) (.tmp 41), (some 42), none⟩]
def o5_8 : List AOper := [⟨.move (.const (.bool false)), (some 2), none⟩]
def o5_9 : List AOper := [⟨.move (.tmp 3), (some 43), none⟩,
  ⟨.move (.tmp 5), (some 44), none⟩,
  ⟨.buildSlice 24 1 [(.float .f64 0)] 1 [(0, (.tmp 44))], (some 45), none⟩,
  ⟨.append 24 8 1 [(.float .f64 0)] (.tmp 43) (.tmp 45), (some 46), none⟩,
  ⟨.move (.tmp 46), (some 3), none⟩]
def o5_10 : List AOper := [⟨.move (.tmp 4), (some 19), none⟩,
  ⟨.bin .add (.tmp 19) (.const (.int .i64 1)), (some 20), none⟩,
  ⟨.move (.tmp 20), (some 4), none⟩]
def b5_4 : ACode := (.seq (.seq (.ops o5_5) (.cond (.tmp 18) .skip (.exit 0))) (.seq (.block 1 (.seq (.ops o5_6) (.seq (.seq (.ops o5_7) (.cond (.tmp 42) (.seq (.ops o5_8) .ret) .skip)) (.ops o5_9)))) (.ops o5_10)))
def o5_11 : List AOper := [⟨.move (.const (.int .i64 0)), (some 7), none⟩]
def o5_13 : List AOper := [⟨.move (.tmp 7), (some 47), none⟩,
  ⟨.move (.tmp 0), (some 48), none⟩,
  ⟨.bu .len [(.tmp 48)], (some 49), none⟩,
  ⟨.bin .lss (.tmp 47) (.tmp 49), (some 50), none⟩]
def o5_14 : List AOper := [⟨.move (.const (.int .i64 0)), (some 8), none⟩]
def o5_15 : List AOper := [⟨.move (.const (.int .i64 0)), (some 9), none⟩]
def o5_17 : List AOper := [⟨.move (.tmp 9), (some 53), none⟩,
  ⟨.move (.tmp 0), (some 54), none⟩,
  ⟨.bu .len [(.tmp 54)], (some 55), none⟩,
  ⟨.bin .lss (.tmp 53) (.tmp 55), (some 56), none⟩]
def d5_18 : List DOper := [⟨⟨.move (.tmp 0), (some 59), none⟩, 0⟩,
  ⟨⟨.move (.tmp 9), (some 60), none⟩, 0⟩,
  ⟨⟨.addrSl 1 (.tmp 59) (.tmp 60), (some 61), none⟩, 3⟩,
  ⟨⟨.load none (.tmp 61), (some 62), none⟩, 7⟩,
  ⟨⟨.move (.tmp 0), (some 63), none⟩, 0⟩,
  ⟨⟨.move (.tmp 7), (some 64), none⟩, 0⟩,
  ⟨⟨.addrSl 1 (.tmp 63) (.tmp 64), (some 65), none⟩, 48⟩,
  ⟨⟨.load none (.tmp 65), (some 66), none⟩, 112⟩,
  ⟨⟨.call (.func 14) [(.tmp 62), (.tmp 66)], (some 67), none⟩, 255⟩]
def o5_19 : List AOper := [⟨.move (.tmp 8), (some 68), none⟩,
  ⟨.bin .add (.tmp 68) (.const (.int .i64 1)), (some 69), none⟩,
  ⟨.move (.tmp 69), (some 8), none⟩]
def d5_20 : List DOper := [⟨⟨.move (.tmp 3), (some 70), none⟩, 0⟩,
  ⟨⟨.move (.tmp 9), (some 71), none⟩, 0⟩,
  ⟨⟨.addrSl 1 (.tmp 70) (.tmp 71), (some 72), none⟩, 3⟩,
  ⟨⟨.load none (.tmp 72), (some 73), none⟩, 7⟩,
  ⟨⟨.move (.tmp 0), (some 74), none⟩, 0⟩,
  ⟨⟨.move (.tmp 7), (some 75), none⟩, 0⟩,
  ⟨⟨.addrSl 1 (.tmp 74) (.tmp 75), (some 76), none⟩, 48⟩,
  ⟨⟨.load none (.tmp 76), (some 77), none⟩, 112⟩,
  ⟨⟨.call (.func 14) [(.tmp 73), (.tmp 77)], (some 78), none⟩, 255⟩]
def o5_21 : List AOper := [⟨.move (.tmp 8), (some 79), none⟩,
  ⟨.bin .sub (.tmp 79) (.const (.int .i64 1)), (some 80), none⟩,
  ⟨.move (.tmp 80), (some 8), none⟩]
def o5_22 : List AOper := [⟨.move (.tmp 9), (some 57), none⟩,
  ⟨.bin .add (.tmp 57) (.const (.int .i64 1)), (some 58), none⟩,
  ⟨.move (.tmp 58), (some 9), none⟩]
def b5_16 : ACode := (.seq (.seq (.ops o5_17) (.cond (.tmp 56) .skip (.exit 4))) (.seq (.block 5 (.seq (.seq (.draw d5_18) (.cond (.tmp 67) (.ops o5_19) .skip)) (.seq (.draw d5_20) (.cond (.tmp 78) (.ops o5_21) .skip)))) (.ops o5_22)))
def o5_23 : List AOper := [⟨.move (.tmp 8), (some 81), none⟩,
  ⟨.bin .neq (.tmp 81) (.const (.int .i64 0)), (some 82), none⟩]
def o5_24 : List AOper := [⟨.move (.const (.bool false)), (some 2), none⟩]
def o5_25 : List AOper := [⟨.move (.tmp 7), (some 51), none⟩,
  ⟨.bin .add (.tmp 51) (.const (.int .i64 1)), (some 52), none⟩,
  ⟨.move (.tmp 52), (some 7), none⟩]
def b5_12 : ACode := (.seq (.seq (.ops o5_13) (.cond (.tmp 50) .skip (.exit 2))) (.seq (.block 3 (.seq (.ops o5_14) (.seq (.seq (.ops o5_15) (.block 4 (.loop b5_16))) (.seq (.ops o5_23) (.cond (.tmp 82) (.seq (.ops o5_24) .ret) .skip))))) (.ops o5_25)))
def o5_26 : List AOper := [⟨.call (.func 24) [], (some 83), none⟩,
  ⟨.move (.tmp 83), (some 2), none⟩]
def ir5 : AFn := ⟨84, [.tmp 2], (.seq (.ops o5_0) (.seq (.ops o5_1) (.seq (.ops o5_2) (.seq (.seq (.ops o5_3) (.block 0 (.loop b5_4))) (.seq (.seq (.ops o5_11) (.block 2 (.loop b5_12))) (.seq (.ops o5_26) .ret))))))⟩
theorem ir5_eq : fnsOf Try.prog 5 = some ir5 := by kernel_rfl

/-! F14 lookout/lookoutref01.SameFloat -/
def o14_0 : List AOper := [⟨.move (.const (.bool false)), (some 4), none⟩]
def o14_1 : List AOper := [⟨.move (.tmp 0), (some 5), none⟩,
  ⟨.move (.tmp 0), (some 6), none⟩,
  ⟨.bin .neq (.tmp 5) (.tmp 6), (some 7), none⟩,
  ⟨.move (.tmp 7), (some 8), none⟩,
  ⟨.move (.tmp 1), (some 9), (some (8, false))⟩,
  ⟨.move (.tmp 1), (some 10), (some (8, false))⟩,
  ⟨.bin .neq (.tmp 9) (.tmp 10), (some 11), (some (8, false))⟩,
  ⟨.pick (.tmp 8) (.const (.bool true)) (.tmp 11), (some 12), none⟩]
def o14_2 : List AOper := [⟨.move (.tmp 0), (some 13), none⟩,
  ⟨.move (.tmp 0), (some 14), none⟩,
  ⟨.bin .neq (.tmp 13) (.tmp 14), (some 15), none⟩,
  ⟨.move (.tmp 15), (some 16), none⟩,
  ⟨.move (.tmp 1), (some 17), (some (16, true))⟩,
  ⟨.move (.tmp 1), (some 18), (some (16, true))⟩,
  ⟨.bin .neq (.tmp 17) (.tmp 18), (some 19), (some (16, true))⟩,
  ⟨.pick (.tmp 16) (.tmp 19) (.const (.bool false)), (some 20), none⟩,
  ⟨.move (.tmp 20), (some 4), none⟩]
def o14_3 : List AOper := [⟨.move (.tmp 0), (some 21), none⟩,
  ⟨.ext 0 23 [(.tmp 21)], (some 22), none⟩,
  ⟨.move (.tmp 1), (some 23), none⟩,
  ⟨.ext 0 23 [(.tmp 23)], (some 24), none⟩,
  ⟨.bin .eql (.tmp 22) (.tmp 24), (some 25), none⟩,
  ⟨.move (.tmp 25), (some 4), none⟩]
def ir14 : AFn := ⟨26, [.tmp 4], (.seq (.ops o14_0) (.seq (.seq (.ops o14_1) (.cond (.tmp 12) (.seq (.ops o14_2) .ret) .skip)) (.seq (.ops o14_3) .ret)))⟩
theorem ir14_eq : fnsOf Try.prog 14 = some ir14 := by kernel_rfl

/-! F18 lookout/sums.Floats -/
def o18_0 : List AOper := [⟨.move (.const (.float .f64 0)), (some 2), none⟩]
def o18_1 : List AOper := [⟨.move (.tmp 0), (some 6), none⟩,
  ⟨.bu .len [(.tmp 6)], (some 7), none⟩,
  ⟨.bin .eql (.tmp 7) (.const (.int .i64 0)), (some 8), none⟩]
def o18_2 : List AOper := [⟨.move (.const (.float .f64 0)), (some 2), none⟩]
def o18_3 : List AOper := [⟨.move (.tmp 0), (some 9), none⟩,
  ⟨.addrSl 1 (.tmp 9) (.const (.int .i64 0)), (some 10), none⟩,
  ⟨.load none (.tmp 10), (some 11), none⟩,
  ⟨.move (.tmp 11), (some 3), none⟩]
def o18_4 : List AOper := [⟨.move (.tmp 0), (some 12), none⟩,
  ⟨.slSl 1 (.tmp 12) (some (.const (.int .i64 1))) none none, (some 13), none⟩,
  ⟨.bu .len [(.tmp 13)], (some 14), none⟩,
  ⟨.move (.const (.int .i64 0)), (some 15), none⟩]
def o18_6 : List AOper := [⟨.bin .lss (.tmp 15) (.tmp 14), (some 16), none⟩]
def o18_7 : List AOper := [⟨.addrSl 1 (.tmp 13) (.tmp 15), (some 17), none⟩,
  ⟨.load none (.tmp 17), (some 18), none⟩,
  ⟨.move (.tmp 18), (some 5), none⟩]
def o18_8 : List AOper := [⟨.move (.tmp 3), (some 19), none⟩,
  ⟨.move (.tmp 5), (some 20), none⟩,
  ⟨.bin .add (.tmp 19) (.tmp 20), (some 21), none⟩,
  ⟨.move (.tmp 21), (some 3), none⟩]
def o18_9 : List AOper := [⟨.bin .add (.tmp 15) (.const (.int .i64 1)), (some 22), none⟩,
  ⟨.move (.tmp 22), (some 15), none⟩]
def b18_5 : ACode := (.seq (.ops o18_6) (.seq (.cond (.tmp 16) .skip (.exit 0)) (.seq (.block 1 (.seq (.ops o18_7) (.ops o18_8))) (.ops o18_9))))
def o18_10 : List AOper := [⟨.move (.tmp 3), (some 23), none⟩,
  ⟨.move (.tmp 23), (some 2), none⟩]
def ir18 : AFn := ⟨24, [.tmp 2], (.seq (.ops o18_0) (.seq (.seq (.ops o18_1) (.cond (.tmp 8) (.seq (.ops o18_2) .ret) .skip)) (.seq (.ops o18_3) (.seq (.seq (.ops o18_4) (.block 0 (.loop b18_5))) (.seq (.ops o18_10) .ret)))))⟩
theorem ir18_eq : fnsOf Try.prog 18 = some ir18 := by kernel_rfl

/-! F19 lookout/lookoutref03.Floats -/
def o19_0 : List AOper := [⟨.move (.const (.float .f64 0)), (some 2), none⟩]
def o19_1 : List AOper := [⟨.move (.tmp 0), (some 5), none⟩,
  ⟨.bu .len [(.tmp 5)], (some 6), none⟩,
  ⟨.bin .eql (.tmp 6) (.const (.int .i64 0)), (some 7), none⟩]
def o19_2 : List AOper := [⟨.move (.const (.float .f64 0)), (some 2), none⟩]
def o19_3 : List AOper := [⟨.move (.tmp 0), (some 8), none⟩,
  ⟨.addrSl 1 (.tmp 8) (.const (.int .i64 0)), (some 9), none⟩,
  ⟨.load none (.tmp 9), (some 10), none⟩,
  ⟨.move (.tmp 10), (some 3), none⟩]
def o19_4 : List AOper := [⟨.move (.const (.int .i64 1)), (some 4), none⟩]
def o19_6 : List AOper := [⟨.move (.tmp 4), (some 11), none⟩,
  ⟨.move (.tmp 0), (some 12), none⟩,
  ⟨.bu .len [(.tmp 12)], (some 13), none⟩,
  ⟨.bin .lss (.tmp 11) (.tmp 13), (some 14), none⟩]
def o19_7 : List AOper := [⟨.move (.tmp 3), (some 17), none⟩,
  ⟨.move (.tmp 0), (some 18), none⟩,
  ⟨.move (.tmp 4), (some 19), none⟩,
  ⟨.addrSl 1 (.tmp 18) (.tmp 19), (some 20), none⟩,
  ⟨.load none (.tmp 20), (some 21), none⟩,
  ⟨.bin .add (.tmp 17) (.tmp 21), (some 22), none⟩,
  ⟨.move (.tmp 22), (some 3), none⟩]
def o19_8 : List AOper := [⟨.move (.tmp 4), (some 15), none⟩,
  ⟨.bin .add (.tmp 15) (.const (.int .i64 1)), (some 16), none⟩,
  ⟨.move (.tmp 16), (some 4), none⟩]
def b19_5 : ACode := (.seq (.seq (.ops o19_6) (.cond (.tmp 14) .skip (.exit 0))) (.seq (.block 1 (.ops o19_7)) (.ops o19_8)))
def o19_9 : List AOper := [⟨.move (.tmp 3), (some 23), none⟩,
  ⟨.move (.tmp 23), (some 2), none⟩]
def ir19 : AFn := ⟨24, [.tmp 2], (.seq (.ops o19_0) (.seq (.seq (.ops o19_1) (.cond (.tmp 7) (.seq (.ops o19_2) .ret) .skip)) (.seq (.ops o19_3) (.seq (.seq (.ops o19_4) (.block 0 (.loop b19_5))) (.seq (.ops o19_9) .ret)))))⟩
theorem ir19_eq : fnsOf Try.prog 19 = some ir19 := by kernel_rfl

/-! F20 lookout/sums.Nth -/
def o20_0 : List AOper := [⟨.move (.const (.float .f64 0)), (some 4), none⟩,
  ⟨.move (.const (.int .i64 0)), (some 5), none⟩]
def o20_1 : List AOper := [⟨.move (.tmp 1), (some 7), none⟩,
  ⟨.bin .lss (.tmp 7) (.const (.int .i64 0)), (some 8), none⟩,
  ⟨.move (.tmp 8), (some 9), none⟩,
  ⟨.move (.tmp 1), (some 10), (some (9, false))⟩,
  ⟨.move (.tmp 0), (some 11), (some (9, false))⟩,
  ⟨.bu .len [(.tmp 11)], (some 12), (some (9, false))⟩,
  ⟨.bin .geq (.tmp 10) (.tmp 12), (some 13), (some (9, false))⟩,
  ⟨.pick (.tmp 9) (.const (.bool true)) (.tmp 13), (some 14), none⟩]
def o20_2 : List AOper := [⟨.move (.const (.float .f64 0)), (some 4), none⟩,
  ⟨.move (.const (.int .i64 2)), (some 5), none⟩]
def o20_3 : List AOper := [⟨.move (.tmp 0), (some 15), none⟩,
  ⟨.call (.func 41) [(.tmp 15)], (some 16), none⟩,
  ⟨.move (.tmp 16), (some 6), none⟩]
def o20_4 : List AOper := [⟨.move (.tmp 6), (some 17), none⟩,
  ⟨.call (.func 42) [(.tmp 17), (.func 43)], (some 18), none⟩]
def o20_5 : List AOper := [⟨.move (.tmp 6), (some 19), none⟩,
  ⟨.move (.tmp 1), (some 20), none⟩,
  ⟨.addrSl 1 (.tmp 19) (.tmp 20), (some 21), none⟩,
  ⟨.load none (.tmp 21), (some 22), none⟩,
  ⟨.move (.tmp 22), (some 4), none⟩,
  ⟨.move (.const (.int .i64 0)), (some 5), none⟩]
def ir20 : AFn := ⟨23, [.tmp 4, .tmp 5], (.seq (.ops o20_0) (.seq (.seq (.ops o20_1) (.cond (.tmp 14) (.seq (.ops o20_2) .ret) .skip)) (.seq (.ops o20_3) (.seq (.ops o20_4) (.seq (.ops o20_5) .ret)))))⟩
theorem ir20_eq : fnsOf Try.prog 20 = some ir20 := by kernel_rfl

/-! F21 lookout/lookoutref03.Nth -/
def o21_0 : List AOper := [⟨.move (.const (.float .f64 0)), (some 4), none⟩,
  ⟨.move (.const (.int .i64 0)), (some 5), none⟩]
def o21_1 : List AOper := [⟨.move (.tmp 1), (some 6), none⟩,
  ⟨.bin .lss (.tmp 6) (.const (.int .i64 0)), (some 7), none⟩,
  ⟨.move (.tmp 7), (some 8), none⟩,
  ⟨.move (.tmp 1), (some 9), (some (8, false))⟩,
  ⟨.move (.tmp 0), (some 10), (some (8, false))⟩,
  ⟨.bu .len [(.tmp 10)], (some 11), (some (8, false))⟩,
  ⟨.bin .geq (.tmp 9) (.tmp 11), (some 12), (some (8, false))⟩,
  ⟨.pick (.tmp 8) (.const (.bool true)) (.tmp 12), (some 13), none⟩]
def o21_2 : List AOper := [⟨.move (.const (.float .f64 0)), (some 4), none⟩,
  ⟨.move (.const (.int .i64 2)), (some 5), none⟩]
def o21_3 : List AOper := [⟨.move (.tmp 0), (some 14), none⟩,
  ⟨.call (.func 44) [(.tmp 14)], (some 15), none⟩,
  ⟨.move (.tmp 1), (some 16), none⟩,
  ⟨.addrSl 1 (.tmp 15) (.tmp 16), (some 17), none⟩,
  ⟨.load none (.tmp 17), (some 18), none⟩,
  ⟨.move (.tmp 18), (some 4), none⟩,
  ⟨.move (.const (.int .i64 0)), (some 5), none⟩]
def ir21 : AFn := ⟨19, [.tmp 4, .tmp 5], (.seq (.ops o21_0) (.seq (.seq (.ops o21_1) (.cond (.tmp 13) (.seq (.ops o21_2) .ret) .skip)) (.seq (.ops o21_3) .ret)))⟩
theorem ir21_eq : fnsOf Try.prog 21 = some ir21 := by kernel_rfl

/-! F22 lookout/lookoutref01.SameFloats -/
def o22_0 : List AOper := [⟨.move (.const (.bool false)), (some 4), none⟩]
def o22_1 : List AOper := [⟨.move (.tmp 0), (some 7), none⟩,
  ⟨.bu .len [(.tmp 7)], (some 8), none⟩,
  ⟨.move (.tmp 1), (some 9), none⟩,
  ⟨.bu .len [(.tmp 9)], (some 10), none⟩,
  ⟨.bin .neq (.tmp 8) (.tmp 10), (some 11), none⟩]
def o22_2 : List AOper := [⟨.move (.const (.bool false)), (some 4), none⟩]
def o22_3 : List AOper := [⟨.move (.const (.int .i64 0)), (some 5), none⟩]
def o22_5 : List AOper := [⟨.move (.tmp 5), (some 12), none⟩,
  ⟨.move (.tmp 0), (some 13), none⟩,
  ⟨.bu .len [(.tmp 13)], (some 14), none⟩,
  ⟨.bin .lss (.tmp 12) (.tmp 14), (some 15), none⟩]
def d22_6 : List DOper := [⟨⟨.move (.tmp 0), (some 18), none⟩, 0⟩,
  ⟨⟨.move (.tmp 5), (some 19), none⟩, 0⟩,
  ⟨⟨.addrSl 1 (.tmp 18) (.tmp 19), (some 20), none⟩, 3⟩,
  ⟨⟨.load none (.tmp 20), (some 21), none⟩, 7⟩,
  ⟨⟨.move (.tmp 1), (some 22), none⟩, 0⟩,
  ⟨⟨.move (.tmp 5), (some 23), none⟩, 0⟩,
  ⟨⟨.addrSl 1 (.tmp 22) (.tmp 23), (some 24), none⟩, 48⟩,
  ⟨⟨.load none (.tmp 24), (some 25), none⟩, 112⟩,
  ⟨⟨.call (.func 14) [(.tmp 21), (.tmp 25)], (some 26), none⟩, 255⟩,
  ⟨⟨.move (.tmp 26), (some 6), none⟩, 511⟩]
def o22_7 : List AOper := [⟨.move (.tmp 6), (some 27), none⟩,
  ⟨.un .not (.tmp 27), (some 28), none⟩]
def o22_8 : List AOper := [⟨.move (.const (.bool false)), (some 4), none⟩]
def o22_9 : List AOper := [⟨.move (.tmp 5), (some 16), none⟩,
  ⟨.bin .add (.tmp 16) (.const (.int .i64 1)), (some 17), none⟩,
  ⟨.move (.tmp 17), (some 5), none⟩]
def b22_4 : ACode := (.seq (.seq (.ops o22_5) (.cond (.tmp 15) .skip (.exit 0))) (.seq (.block 1 (.seq (.draw d22_6) (.seq (.ops o22_7) (.cond (.tmp 28) (.seq (.ops o22_8) .ret) .skip)))) (.ops o22_9)))
def o22_10 : List AOper := [⟨.move (.const (.bool true)), (some 4), none⟩]
def ir22 : AFn := ⟨29, [.tmp 4], (.seq (.ops o22_0) (.seq (.seq (.ops o22_1) (.cond (.tmp 11) (.seq (.ops o22_2) .ret) .skip)) (.seq (.seq (.ops o22_3) (.block 0 (.loop b22_4))) (.seq (.ops o22_10) .ret))))⟩
theorem ir22_eq : fnsOf Try.prog 22 = some ir22 := by kernel_rfl

/-! F25 lookout/lookoutref01.Place -/
def o25_0 : List AOper := [⟨.move (.const (.int .i64 0)), (some 4), none⟩]
def o25_1 : List AOper := [⟨.move (.tmp 0), (some 6), none⟩,
  ⟨.move (.tmp 1), (some 7), none⟩,
  ⟨.call (.func 14) [(.tmp 6), (.tmp 7)], (some 8), none⟩,
  ⟨.move (.tmp 8), (some 5), none⟩]
def o25_2 : List AOper := [⟨.move (.tmp 5), (some 10), none⟩,
  ⟨.move (.tmp 10), (some 9), none⟩]
def o25_3 : List AOper := [⟨.move (.const (.int .i64 0)), (some 4), none⟩]
def o25_4 : List AOper := [⟨.move (.tmp 0), (some 12), none⟩,
  ⟨.move (.tmp 0), (some 13), none⟩,
  ⟨.bin .neq (.tmp 12) (.tmp 13), (some 14), none⟩,
  ⟨.move (.tmp 14), (some 11), none⟩]
def o25_5 : List AOper := [⟨.move (.const (.int .i64 1)), (some 4), none⟩]
def o25_6 : List AOper := [⟨.move (.tmp 1), (some 16), none⟩,
  ⟨.move (.tmp 1), (some 17), none⟩,
  ⟨.bin .neq (.tmp 16) (.tmp 17), (some 18), none⟩,
  ⟨.move (.tmp 18), (some 19), none⟩,
  ⟨.move (.tmp 0), (some 20), (some (19, false))⟩,
  ⟨.move (.tmp 1), (some 21), (some (19, false))⟩,
  ⟨.bin .lss (.tmp 20) (.tmp 21), (some 22), (some (19, false))⟩,
  ⟨.pick (.tmp 19) (.const (.bool true)) (.tmp 22), (some 23), none⟩,
  ⟨.move (.tmp 23), (some 15), none⟩]
def o25_7 : List AOper := [⟨.move (.const (.int .i64 (-1))), (some 4), none⟩]
def o25_8 : List AOper := [⟨.move (.tmp 1), (some 25), none⟩,
  ⟨.move (.tmp 0), (some 26), none⟩,
  ⟨.bin .lss (.tmp 25) (.tmp 26), (some 27), none⟩,
  ⟨.move (.tmp 27), (some 24), none⟩]
def o25_9 : List AOper := [⟨.move (.const (.int .i64 1)), (some 4), none⟩]
def o25_10 : List AOper := [⟨.move (.tmp 0), (some 29), none⟩,
  ⟨.call (.func 51) [(.tmp 29)], (some 30), none⟩,
  ⟨.move (.tmp 30), (some 28), none⟩]
def o25_11 : List AOper := [⟨.move (.const (.int .i64 (-1))), (some 4), none⟩]
def o25_12 : List AOper := [⟨.move (.const (.int .i64 1)), (some 4), none⟩]
def ir25 : AFn := ⟨31, [.tmp 4], (.seq (.ops o25_0) (.seq (.ops o25_1) (.seq (.block 0 (.seq (.ops o25_2) (.cond (.tmp 9) (.seq (.ops o25_3) .ret) (.seq (.ops o25_4) (.cond (.tmp 11) (.seq (.ops o25_5) .ret) (.seq (.ops o25_6) (.cond (.tmp 15) (.seq (.ops o25_7) .ret) (.seq (.ops o25_8) (.cond (.tmp 24) (.seq (.ops o25_9) .ret) (.seq (.ops o25_10) (.cond (.tmp 28) (.seq (.ops o25_11) .ret) .skip))))))))))) (.seq (.ops o25_12) .ret))))⟩
theorem ir25_eq : fnsOf Try.prog 25 = some ir25 := by kernel_rfl

/-! F44 lookout/lookoutref03.Sorted -/
def o44_0 : List AOper := [⟨.move (.const (.slice none 0 0)), (some 2), none⟩]
def o44_1 : List AOper := [⟨.move (.tmp 0), (some 8), none⟩,
  ⟨.bu .len [(.tmp 8)], (some 9), none⟩,
  ⟨.bin .lss (.tmp 9) (.const (.int .i64 2)), (some 10), none⟩]
def o44_2 : List AOper := [⟨.buildSlice 24 1 [(.float .f64 0)] 0 [], (some 11), none⟩,
  ⟨.move (.tmp 0), (some 12), none⟩,
  ⟨.append 24 8 1 [(.float .f64 0)] (.tmp 11) (.tmp 12), (some 13), none⟩,
  ⟨.move (.tmp 13), (some 2), none⟩]
def o44_3 : List AOper := [⟨.move (.tmp 0), (some 14), none⟩,
  ⟨.move (.tmp 0), (some 15), none⟩,
  ⟨.bu .len [(.tmp 15)], (some 16), none⟩,
  ⟨.bin .quo (.tmp 16) (.const (.int .i64 2)), (some 17), none⟩,
  ⟨.slSl 1 (.tmp 14) none (some (.tmp 17)) none, (some 18), none⟩,
  ⟨.call (.func 44) [(.tmp 18)], (some 19), none⟩,
  ⟨.move (.tmp 19), (some 3), none⟩]
def o44_4 : List AOper := [⟨.move (.tmp 0), (some 20), none⟩,
  ⟨.move (.tmp 0), (some 21), none⟩,
  ⟨.bu .len [(.tmp 21)], (some 22), none⟩,
  ⟨.bin .quo (.tmp 22) (.const (.int .i64 2)), (some 23), none⟩,
  ⟨.slSl 1 (.tmp 20) (some (.tmp 23)) none none, (some 24), none⟩,
  ⟨.call (.func 44) [(.tmp 24)], (some 25), none⟩,
  ⟨.move (.tmp 25), (some 4), none⟩]
def o44_5 : List AOper := [⟨.move (.const (.slice none 0 0)), (some 5), none⟩]
def o44_6 : List AOper := [⟨.move (.const (.int .i64 0)), (some 6), none⟩]
def o44_7 : List AOper := [⟨.move (.const (.int .i64 0)), (some 7), none⟩]
def o44_9 : List AOper := [⟨.move (.tmp 7), (some 26), none⟩,
  ⟨.move (.tmp 4), (some 27), none⟩,
  ⟨.bu .len [(.tmp 27)], (some 28), none⟩,
  ⟨.bin .lss (.tmp 26) (.tmp 28), (some 29), none⟩]
def d44_11 : List DOper := [⟨⟨.move (.tmp 6), (some 32), none⟩, 0⟩,
  ⟨⟨.move (.tmp 3), (some 33), none⟩, 0⟩,
  ⟨⟨.bu .len [(.tmp 33)], (some 34), none⟩, 2⟩,
  ⟨⟨.bin .lss (.tmp 32) (.tmp 34), (some 35), none⟩, 7⟩,
  ⟨⟨.move (.tmp 35), (some 36), none⟩, 15⟩,
  ⟨⟨.move (.tmp 3), (some 37), (some (36, true))⟩, 31⟩,
  ⟨⟨.move (.tmp 6), (some 38), (some (36, true))⟩, 31⟩,
  ⟨⟨.addrSl 1 (.tmp 37) (.tmp 38), (some 39), (some (36, true))⟩, 127⟩,
  ⟨⟨.load none (.tmp 39), (some 40), (some (36, true))⟩, 255⟩,
  ⟨⟨.move (.tmp 4), (some 41), (some (36, true))⟩, 31⟩,
  ⟨⟨.move (.tmp 7), (some 42), (some (36, true))⟩, 31⟩,
  ⟨⟨.addrSl 1 (.tmp 41) (.tmp 42), (some 43), (some (36, true))⟩, 1567⟩,
  ⟨⟨.load none (.tmp 43), (some 44), (some (36, true))⟩, 3615⟩,
  ⟨⟨.call (.func 25) [(.tmp 40), (.tmp 44)], (some 45), (some (36, true))⟩, 8191⟩,
  ⟨⟨.bin .leq (.tmp 45) (.const (.int .i64 0)), (some 46), (some (36, true))⟩, 16383⟩,
  ⟨⟨.pick (.tmp 36) (.tmp 46) (.const (.bool false)), (some 47), none⟩, 32767⟩]
def o44_12 : List AOper := [⟨.move (.tmp 5), (some 48), none⟩,
  ⟨.move (.tmp 3), (some 49), none⟩,
  ⟨.move (.tmp 6), (some 50), none⟩,
  ⟨.addrSl 1 (.tmp 49) (.tmp 50), (some 51), none⟩,
  ⟨.load none (.tmp 51), (some 52), none⟩,
  ⟨.buildSlice 24 1 [(.float .f64 0)] 1 [(0, (.tmp 52))], (some 53), none⟩,
  ⟨.append 24 8 1 [(.float .f64 0)] (.tmp 48) (.tmp 53), (some 54), none⟩,
  ⟨.move (.tmp 54), (some 5), none⟩]
def o44_13 : List AOper := [⟨.move (.tmp 6), (some 55), none⟩,
  ⟨.bin .add (.tmp 55) (.const (.int .i64 1)), (some 56), none⟩,
  ⟨.move (.tmp 56), (some 6), none⟩]
def b44_10 : ACode := (.seq (.seq (.draw d44_11) (.cond (.tmp 47) .skip (.exit 2))) (.block 3 (.seq (.ops o44_12) (.ops o44_13))))
def o44_14 : List AOper := [⟨.move (.tmp 5), (some 57), none⟩,
  ⟨.move (.tmp 4), (some 58), none⟩,
  ⟨.move (.tmp 7), (some 59), none⟩,
  ⟨.addrSl 1 (.tmp 58) (.tmp 59), (some 60), none⟩,
  ⟨.load none (.tmp 60), (some 61), none⟩,
  ⟨.buildSlice 24 1 [(.float .f64 0)] 1 [(0, (.tmp 61))], (some 62), none⟩,
  ⟨.append 24 8 1 [(.float .f64 0)] (.tmp 57) (.tmp 62), (some 63), none⟩,
  ⟨.move (.tmp 63), (some 5), none⟩]
def o44_15 : List AOper := [⟨.move (.tmp 7), (some 30), none⟩,
  ⟨.bin .add (.tmp 30) (.const (.int .i64 1)), (some 31), none⟩,
  ⟨.move (.tmp 31), (some 7), none⟩]
def b44_8 : ACode := (.seq (.seq (.ops o44_9) (.cond (.tmp 29) .skip (.exit 0))) (.seq (.block 1 (.seq (.block 2 (.loop b44_10)) (.ops o44_14))) (.ops o44_15)))
def o44_16 : List AOper := [⟨.move (.tmp 5), (some 64), none⟩,
  ⟨.move (.tmp 3), (some 65), none⟩,
  ⟨.move (.tmp 6), (some 66), none⟩,
  ⟨.slSl 1 (.tmp 65) (some (.tmp 66)) none none, (some 67), none⟩,
  ⟨.append 24 8 1 [(.float .f64 0)] (.tmp 64) (.tmp 67), (some 68), none⟩,
  ⟨.move (.tmp 68), (some 2), none⟩]
def ir44 : AFn := ⟨69, [.tmp 2], (.seq (.ops o44_0) (.seq (.seq (.ops o44_1) (.cond (.tmp 10) (.seq (.ops o44_2) .ret) .skip)) (.seq (.ops o44_3) (.seq (.ops o44_4) (.seq (.ops o44_5) (.seq (.ops o44_6) (.seq (.seq (.ops o44_7) (.block 0 (.loop b44_8))) (.seq (.ops o44_16) .ret))))))))⟩
theorem ir44_eq : fnsOf Try.prog 44 = some ir44 := by kernel_rfl

/-! F51 math.Signbit -/
def o51_0 : List AOper := [⟨.move (.const (.bool false)), (some 2), none⟩]
def o51_1 : List AOper := [⟨.move (.tmp 0), (some 3), none⟩,
  ⟨.ext 0 23 [(.tmp 3)], (some 4), none⟩,
  ⟨.conv (.toInt .i64) (.tmp 4), (some 5), none⟩,
  ⟨.bin .lss (.tmp 5) (.const (.int .i64 0)), (some 6), none⟩,
  ⟨.move (.tmp 6), (some 2), none⟩]
def ir51 : AFn := ⟨7, [.tmp 2], (.seq (.ops o51_0) (.seq (.ops o51_1) .ret))⟩
theorem ir51_eq : fnsOf Try.prog 51 = some ir51 := by kernel_rfl


end Go.Proofs.Ytfjdihfflghfpaa
