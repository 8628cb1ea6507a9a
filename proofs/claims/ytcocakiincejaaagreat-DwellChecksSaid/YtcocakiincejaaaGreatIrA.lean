/- The small machine's text of functions of the seat. -/
import Derived.Test.YtcocakiincejaaaGreatRows
import Derived.Test.YtcocakiincejaaaGreatVam25
import Derived.KernelRfl
namespace Go.Proofs.YtcocakiincejaaaGreat
open Go Go.Vam

/-! F4 lookout/dwell.Check -/
def o4_0 : List AOper := [⟨.box 27 (.tmp 0), (some 1), none⟩,
  ⟨.move (.const (.int .i64 0)), (some 2), none⟩]
def o4_1 : List AOper := [⟨.fieldAddr 0 (.tmp 1), (some 7), none⟩,
  ⟨.load (some 5) (.tmp 7), (some 8), none⟩,
  ⟨.call (.func 7) [(.tmp 8)], (some 9), none⟩,
  ⟨.move (.tmp 9), (some 3), none⟩]
def o4_2 : List AOper := [⟨.move (.tmp 3), (some 10), none⟩,
  ⟨.bin .neq (.tmp 10) (.const (.int .i64 0)), (some 11), none⟩]
def o4_3 : List AOper := [⟨.move (.tmp 3), (some 12), none⟩,
  ⟨.move (.tmp 12), (some 2), none⟩]
def o4_4 : List AOper := [⟨.fieldAddr 5 (.tmp 1), (some 14), none⟩,
  ⟨.load none (.tmp 14), (some 15), none⟩,
  ⟨.call (.func 8) [(.tmp 15)], (some 16), none⟩,
  ⟨.move (.tmp 16), (some 13), none⟩,
  ⟨.extract (.tmp 13) 0, (some 17), none⟩,
  ⟨.extract (.tmp 13) 1, (some 18), none⟩,
  ⟨.move (.tmp 17), (some 4), none⟩,
  ⟨.move (.tmp 18), (some 5), none⟩]
def o4_5 : List AOper := [⟨.fieldAddr 0 (.tmp 1), (some 19), none⟩,
  ⟨.load (some 5) (.tmp 19), (some 20), none⟩,
  ⟨.alloc 24 [(.float .f64 0), (.float .f64 0), (.float .f64 0), (.int .i64 0), (.int .i64 0)], (some 6), none⟩,
  ⟨.store 5 (.tmp 6) (.tmp 20), none, none⟩]
def o4_6 : List AOper := [⟨.move (.tmp 5), (some 22), none⟩,
  ⟨.bin .neq (.tmp 22) (.const (.int .i64 0)), (some 23), none⟩,
  ⟨.move (.tmp 23), (some 21), none⟩]
def o4_7 : List AOper := [⟨.move (.tmp 5), (some 24), none⟩,
  ⟨.move (.tmp 24), (some 2), none⟩]
def o4_8 : List AOper := [⟨.move (.tmp 4), (some 26), none⟩,
  ⟨.bu .len [(.tmp 26)], (some 27), none⟩,
  ⟨.fieldAddr 3 (.tmp 6), (some 28), none⟩,
  ⟨.load none (.tmp 28), (some 29), none⟩,
  ⟨.bin .gtr (.tmp 27) (.tmp 29), (some 30), none⟩,
  ⟨.move (.tmp 30), (some 25), none⟩]
def o4_9 : List AOper := [⟨.fieldAddr 7 (.tmp 1), (some 31), none⟩,
  ⟨.load none (.tmp 31), (some 32), none⟩,
  ⟨.fieldAddr 4 (.tmp 6), (some 33), none⟩,
  ⟨.load none (.tmp 33), (some 34), none⟩,
  ⟨.bin .sub (.tmp 34) (.const (.int .i64 1)), (some 35), none⟩,
  ⟨.bu .min [(.const (.int .i64 8)), (.tmp 35)], (some 36), none⟩,
  ⟨.call (.func 9) [(.tmp 32), (.const (.int .i64 0)), (.tmp 36)], (some 37), none⟩,
  ⟨.un .not (.tmp 37), (some 38), none⟩,
  ⟨.move (.tmp 38), (some 25), none⟩]
def o4_10 : List AOper := [⟨.move (.const (.int .i64 2)), (some 2), none⟩]
def o4_11 : List AOper := [⟨.fieldAddr 9 (.tmp 1), (some 40), none⟩,
  ⟨.load none (.tmp 40), (some 41), none⟩,
  ⟨.call (.func 9) [(.tmp 41), (.const (.int .i64 0)), (.const (.int .i64 16384))], (some 42), none⟩,
  ⟨.un .not (.tmp 42), (some 43), none⟩,
  ⟨.move (.tmp 43), (some 39), none⟩]
def o4_12 : List AOper := [⟨.fieldAddr 10 (.tmp 1), (some 44), none⟩,
  ⟨.load none (.tmp 44), (some 45), none⟩,
  ⟨.call (.func 9) [(.tmp 45), (.const (.int .i64 1)), (.const (.int .i64 16384))], (some 46), none⟩,
  ⟨.un .not (.tmp 46), (some 47), none⟩,
  ⟨.move (.tmp 47), (some 39), none⟩]
def o4_13 : List AOper := [⟨.move (.const (.int .i64 2)), (some 2), none⟩]
def o4_14 : List AOper := [⟨.fieldAddr 11 (.tmp 1), (some 49), none⟩,
  ⟨.load none (.tmp 49), (some 50), none⟩,
  ⟨.call (.func 9) [(.tmp 50), (.const (.int .i64 0)), (.const (.int .i64 32768))], (some 51), none⟩,
  ⟨.un .not (.tmp 51), (some 52), none⟩,
  ⟨.move (.tmp 52), (some 48), none⟩]
def o4_15 : List AOper := [⟨.fieldAddr 8 (.tmp 1), (some 53), none⟩,
  ⟨.load none (.tmp 53), (some 54), none⟩,
  ⟨.bin .eql (.tmp 54) (.const (.int .i8 3)), (some 55), none⟩,
  ⟨.move (.tmp 55), (some 56), none⟩,
  ⟨.fieldAddr 11 (.tmp 1), (some 57), (some (56, true))⟩,
  ⟨.load none (.tmp 57), (some 58), (some (56, true))⟩,
  ⟨.fieldAddr 10 (.tmp 1), (some 59), (some (56, true))⟩,
  ⟨.load none (.tmp 59), (some 60), (some (56, true))⟩,
  ⟨.bin .mul (.const (.int .i64 2)) (.tmp 60), (some 61), (some (56, true))⟩,
  ⟨.bin .sub (.tmp 61) (.const (.int .i64 1)), (some 62), (some (56, true))⟩,
  ⟨.bin .gtr (.tmp 58) (.tmp 62), (some 63), (some (56, true))⟩,
  ⟨.pick (.tmp 56) (.tmp 63) (.const (.bool false)), (some 64), none⟩,
  ⟨.move (.tmp 64), (some 48), none⟩]
def o4_16 : List AOper := [⟨.move (.const (.int .i64 2)), (some 2), none⟩]
def o4_17 : List AOper := [⟨.fieldAddr 12 (.tmp 1), (some 66), none⟩,
  ⟨.load none (.tmp 66), (some 67), none⟩,
  ⟨.call (.func 10) [(.tmp 67)], (some 68), none⟩,
  ⟨.un .not (.tmp 68), (some 69), none⟩,
  ⟨.move (.tmp 69), (some 65), none⟩]
def o4_18 : List AOper := [⟨.fieldAddr 13 (.tmp 1), (some 70), none⟩,
  ⟨.load none (.tmp 70), (some 71), none⟩,
  ⟨.call (.func 10) [(.tmp 71)], (some 72), none⟩,
  ⟨.un .not (.tmp 72), (some 73), none⟩,
  ⟨.move (.tmp 73), (some 65), none⟩]
def o4_19 : List AOper := [⟨.move (.const (.int .i64 6)), (some 2), none⟩]
def o4_20 : List AOper := [⟨.fieldAddr 12 (.tmp 1), (some 75), none⟩,
  ⟨.load none (.tmp 75), (some 76), none⟩,
  ⟨.bin .lss (.tmp 76) (.const (.float .f64 0)), (some 77), none⟩,
  ⟨.move (.tmp 77), (some 74), none⟩]
def o4_21 : List AOper := [⟨.fieldAddr 13 (.tmp 1), (some 78), none⟩,
  ⟨.load none (.tmp 78), (some 79), none⟩,
  ⟨.bin .lss (.tmp 79) (.const (.float .f64 0)), (some 80), none⟩,
  ⟨.move (.tmp 80), (some 74), none⟩]
def o4_22 : List AOper := [⟨.move (.const (.int .i64 2)), (some 2), none⟩]
def o4_23 : List AOper := [⟨.fieldAddr 4 (.tmp 6), (some 82), none⟩,
  ⟨.load none (.tmp 82), (some 83), none⟩,
  ⟨.fieldAddr 3 (.tmp 6), (some 84), none⟩,
  ⟨.load none (.tmp 84), (some 85), none⟩,
  ⟨.bin .mul (.tmp 83) (.tmp 85), (some 86), none⟩,
  ⟨.move (.tmp 4), (some 87), none⟩,
  ⟨.bu .len [(.tmp 87)], (some 88), none⟩,
  ⟨.fieldAddr 4 (.tmp 6), (some 89), none⟩,
  ⟨.load none (.tmp 89), (some 90), none⟩,
  ⟨.bu .max [(.tmp 88), (.tmp 90)], (some 91), none⟩,
  ⟨.bin .mul (.tmp 86) (.tmp 91), (some 92), none⟩,
  ⟨.bin .gtr (.tmp 92) (.const (.int .i64 16777216)), (some 93), none⟩,
  ⟨.move (.tmp 93), (some 81), none⟩]
def o4_24 : List AOper := [⟨.move (.const (.int .i64 3)), (some 2), none⟩]
def o4_25 : List AOper := [⟨.move (.const (.int .i64 0)), (some 2), none⟩]
def ir4 : AFn := ⟨94, [.tmp 2], (.seq (.ops o4_0) (.seq (.seq (.ops o4_1) (.seq (.ops o4_2) (.cond (.tmp 11) (.seq (.ops o4_3) .ret) .skip))) (.seq (.ops o4_4) (.seq (.ops o4_5) (.seq (.block 0 (.seq (.ops o4_6) (.cond (.tmp 21) (.seq (.ops o4_7) .ret) (.seq (.seq (.ops o4_8) (.cond (.tmp 25) .skip (.ops o4_9))) (.cond (.tmp 25) (.seq (.ops o4_10) .ret) (.seq (.seq (.ops o4_11) (.cond (.tmp 39) .skip (.ops o4_12))) (.cond (.tmp 39) (.seq (.ops o4_13) .ret) (.seq (.seq (.ops o4_14) (.cond (.tmp 48) .skip (.ops o4_15))) (.cond (.tmp 48) (.seq (.ops o4_16) .ret) (.seq (.seq (.ops o4_17) (.cond (.tmp 65) .skip (.ops o4_18))) (.cond (.tmp 65) (.seq (.ops o4_19) .ret) (.seq (.seq (.ops o4_20) (.cond (.tmp 74) .skip (.ops o4_21))) (.cond (.tmp 74) (.seq (.ops o4_22) .ret) (.seq (.ops o4_23) (.cond (.tmp 81) (.seq (.ops o4_24) .ret) .skip))))))))))))))) (.seq (.ops o4_25) .ret))))))⟩
theorem ir4_eq : fnsOf Tryz.prog 4 = some ir4 := by kernel_rfl

/-! F6 lookout/lookoutlaw25.wakes -/
def o6_0 : List AOper := [⟨.move (.const (.bool false)), (some 0), none⟩]
def o6_1 : List AOper := [⟨.call (.func 14) [], (some 9), none⟩,
  ⟨.alloc 27 [(.float .f64 0), (.float .f64 0), (.float .f64 0), (.int .i64 0), (.int .i64 0), (.int .i64 0), (.int .i8 0), (.int .i64 0), (.int .i8 0), (.int .i64 0), (.int .i64 0), (.int .i64 0), (.float .f64 0), (.float .f64 0)], (some 1), none⟩,
  ⟨.store 14 (.tmp 1) (.tmp 9), none, none⟩]
def o6_2 : List AOper := [⟨.load (some 14) (.tmp 1), (some 11), none⟩,
  ⟨.build [(.float .f64 0), (.float .f64 0), (.float .f64 0), (.float .f64 0), (.float .f64 0)] [(0, 1, (.const (.float .f64 4632233691727265792))), (2, 1, (.const (.float .f64 4607182418800017408)))], (some 12), none⟩,
  ⟨.buildSlice 46 5 [(.float .f64 0), (.float .f64 0), (.float .f64 0), (.float .f64 0), (.float .f64 0)] 1 [(0, (.tmp 12))], (some 13), none⟩,
  ⟨.call (.func 15) [(.tmp 11), (.tmp 13), (.const (.float .f64 0)), (.const (.int .u64 1))], (some 14), none⟩,
  ⟨.move (.tmp 14), (some 10), none⟩,
  ⟨.extract (.tmp 10) 0, (some 15), none⟩,
  ⟨.extract (.tmp 10) 1, (some 16), none⟩,
  ⟨.move (.tmp 15), (some 2), none⟩,
  ⟨.move (.tmp 16), (some 3), none⟩]
def o6_3 : List AOper := [⟨.load (some 14) (.tmp 1), (some 18), none⟩,
  ⟨.move (.tmp 2), (some 19), none⟩,
  ⟨.call (.func 16) [(.tmp 18), (.tmp 19)], (some 20), none⟩,
  ⟨.move (.tmp 20), (some 17), none⟩,
  ⟨.extract (.tmp 17) 0, (some 21), none⟩,
  ⟨.extract (.tmp 17) 1, (some 22), none⟩,
  ⟨.move (.tmp 21), (some 4), none⟩,
  ⟨.move (.tmp 22), (some 5), none⟩]
def o6_4 : List AOper := [⟨.load (some 14) (.tmp 1), (some 24), none⟩,
  ⟨.move (.tmp 2), (some 25), none⟩,
  ⟨.call (.func 17) [(.tmp 24), (.tmp 25), (.const (.float .f64 4598175219545276416)), (.const (.float .f64 4619567317775286272))], (some 26), none⟩,
  ⟨.move (.tmp 26), (some 23), none⟩,
  ⟨.extract (.tmp 23) 0, (some 27), none⟩,
  ⟨.extract (.tmp 23) 1, (some 28), none⟩,
  ⟨.move (.tmp 27), (some 6), none⟩,
  ⟨.move (.tmp 28), (some 7), none⟩]
def o6_5 : List AOper := [⟨.move (.tmp 3), (some 29), none⟩,
  ⟨.bin .neq (.tmp 29) (.const (.int .i64 0)), (some 30), none⟩,
  ⟨.move (.tmp 30), (some 31), none⟩,
  ⟨.move (.tmp 5), (some 32), (some (31, false))⟩,
  ⟨.bin .neq (.tmp 32) (.const (.int .i64 0)), (some 33), (some (31, false))⟩,
  ⟨.pick (.tmp 31) (.const (.bool true)) (.tmp 33), (some 34), none⟩,
  ⟨.move (.tmp 34), (some 35), none⟩,
  ⟨.move (.tmp 7), (some 36), (some (35, false))⟩,
  ⟨.bin .neq (.tmp 36) (.const (.int .i64 0)), (some 37), (some (35, false))⟩,
  ⟨.pick (.tmp 35) (.const (.bool true)) (.tmp 37), (some 38), none⟩,
  ⟨.move (.tmp 38), (some 39), none⟩,
  ⟨.move (.tmp 2), (some 40), (some (39, false))⟩,
  ⟨.bu .len [(.tmp 40)], (some 41), (some (39, false))⟩,
  ⟨.bin .neq (.tmp 41) (.const (.int .i64 4)), (some 42), (some (39, false))⟩,
  ⟨.pick (.tmp 39) (.const (.bool true)) (.tmp 42), (some 43), none⟩,
  ⟨.move (.tmp 43), (some 44), none⟩,
  ⟨.move (.tmp 4), (some 45), (some (44, false))⟩,
  ⟨.bu .len [(.tmp 45)], (some 46), (some (44, false))⟩,
  ⟨.bin .neq (.tmp 46) (.const (.int .i64 4)), (some 47), (some (44, false))⟩,
  ⟨.pick (.tmp 44) (.const (.bool true)) (.tmp 47), (some 48), none⟩,
  ⟨.move (.tmp 48), (some 49), none⟩,
  ⟨.move (.tmp 4), (some 50), (some (49, false))⟩,
  ⟨.addrSl 1 (.tmp 50) (.const (.int .i64 0)), (some 51), (some (49, false))⟩,
  ⟨.load none (.tmp 51), (some 52), (some (49, false))⟩,
  ⟨.bu .len [(.tmp 52)], (some 53), (some (49, false))⟩,
  ⟨.bin .neq (.tmp 53) (.const (.int .i64 16)), (some 54), (some (49, false))⟩,
  ⟨.pick (.tmp 49) (.const (.bool true)) (.tmp 54), (some 55), none⟩,
  ⟨.move (.tmp 55), (some 56), none⟩,
  ⟨.move (.tmp 6), (some 57), (some (56, false))⟩,
  ⟨.bu .len [(.tmp 57)], (some 58), (some (56, false))⟩,
  ⟨.bin .neq (.tmp 58) (.const (.int .i64 1)), (some 59), (some (56, false))⟩,
  ⟨.pick (.tmp 56) (.const (.bool true)) (.tmp 59), (some 60), none⟩]
def o6_6 : List AOper := [⟨.move (.const (.bool false)), (some 0), none⟩]
def o6_7 : List AOper := [⟨.load (some 14) (.tmp 1), (some 61), none⟩,
  ⟨.alloc 27 [(.float .f64 0), (.float .f64 0), (.float .f64 0), (.int .i64 0), (.int .i64 0), (.int .i64 0), (.int .i8 0), (.int .i64 0), (.int .i8 0), (.int .i64 0), (.int .i64 0), (.int .i64 0), (.float .f64 0), (.float .f64 0)], (some 8), none⟩,
  ⟨.store 14 (.tmp 8) (.tmp 61), none, none⟩]
def o6_8 : List AOper := [⟨.fieldAddr 5 (.tmp 8), (some 62), none⟩,
  ⟨.store 1 (.tmp 62) (.const (.int .i64 99)), none, none⟩]
def o6_9 : List AOper := [⟨.move (.tmp 4), (some 63), none⟩,
  ⟨.addrSl 1 (.tmp 63) (.const (.int .i64 0)), (some 64), none⟩,
  ⟨.load none (.tmp 64), (some 65), none⟩,
  ⟨.addrSl 1 (.tmp 65) (.const (.int .i64 5)), (some 66), none⟩,
  ⟨.load none (.tmp 66), (some 67), none⟩,
  ⟨.bin .eql (.tmp 67) (.const (.float .f64 4643211215818981376)), (some 68), none⟩,
  ⟨.move (.tmp 68), (some 69), none⟩,
  ⟨.move (.tmp 6), (some 70), (some (69, true))⟩,
  ⟨.addrSl 5 (.tmp 70) (.const (.int .i64 0)), (some 71), (some (69, true))⟩,
  ⟨.fieldAddr 0 (.tmp 71), (some 72), (some (69, true))⟩,
  ⟨.load none (.tmp 72), (some 73), (some (69, true))⟩,
  ⟨.bin .eql (.tmp 73) (.const (.float .f64 4632937379169042432)), (some 74), (some (69, true))⟩,
  ⟨.pick (.tmp 69) (.tmp 74) (.const (.bool false)), (some 75), none⟩,
  ⟨.move (.tmp 75), (some 76), none⟩,
  ⟨.move (.tmp 6), (some 77), (some (76, true))⟩,
  ⟨.addrSl 5 (.tmp 77) (.const (.int .i64 0)), (some 78), (some (76, true))⟩,
  ⟨.fieldAddr 3 (.tmp 78), (some 79), (some (76, true))⟩,
  ⟨.load none (.tmp 79), (some 80), (some (76, true))⟩,
  ⟨.bin .eql (.tmp 80) (.const (.float .f64 4598175219545276416)), (some 81), (some (76, true))⟩,
  ⟨.pick (.tmp 76) (.tmp 81) (.const (.bool false)), (some 82), none⟩,
  ⟨.move (.tmp 82), (some 83), none⟩,
  ⟨.move (.tmp 6), (some 84), (some (83, true))⟩,
  ⟨.addrSl 5 (.tmp 84) (.const (.int .i64 0)), (some 85), (some (83, true))⟩,
  ⟨.fieldAddr 4 (.tmp 85), (some 86), (some (83, true))⟩,
  ⟨.load none (.tmp 86), (some 87), (some (83, true))⟩,
  ⟨.bin .eql (.tmp 87) (.const (.float .f64 4619567317775286272)), (some 88), (some (83, true))⟩,
  ⟨.pick (.tmp 83) (.tmp 88) (.const (.bool false)), (some 89), none⟩,
  ⟨.move (.tmp 89), (some 90), none⟩,
  ⟨.load (some 14) (.tmp 1), (some 91), (some (90, true))⟩,
  ⟨.call (.func 4) [(.tmp 91)], (some 92), (some (90, true))⟩,
  ⟨.bin .eql (.tmp 92) (.const (.int .i64 0)), (some 93), (some (90, true))⟩,
  ⟨.pick (.tmp 90) (.tmp 93) (.const (.bool false)), (some 94), none⟩,
  ⟨.move (.tmp 94), (some 95), none⟩,
  ⟨.load (some 14) (.tmp 8), (some 96), (some (95, true))⟩,
  ⟨.call (.func 4) [(.tmp 96)], (some 97), (some (95, true))⟩,
  ⟨.bin .eql (.tmp 97) (.const (.int .i64 40)), (some 98), (some (95, true))⟩,
  ⟨.pick (.tmp 95) (.tmp 98) (.const (.bool false)), (some 99), none⟩,
  ⟨.move (.tmp 99), (some 0), none⟩]
def ir6 : AFn := ⟨100, [.tmp 0], (.seq (.ops o6_0) (.seq (.ops o6_1) (.seq (.ops o6_2) (.seq (.ops o6_3) (.seq (.ops o6_4) (.seq (.seq (.ops o6_5) (.cond (.tmp 60) (.seq (.ops o6_6) .ret) .skip)) (.seq (.ops o6_7) (.seq (.ops o6_8) (.seq (.ops o6_9) .ret)))))))))⟩
theorem ir6_eq : fnsOf Tryz.prog 6 = some ir6 := by kernel_rfl

/-! F7 lookout/gate.Check -/
def o7_0 : List AOper := [⟨.box 24 (.tmp 0), (some 1), none⟩,
  ⟨.move (.const (.int .i64 0)), (some 2), none⟩]
def o7_1 : List AOper := [⟨.fieldAddr 0 (.tmp 1), (some 5), none⟩,
  ⟨.load none (.tmp 5), (some 6), none⟩,
  ⟨.fieldAddr 1 (.tmp 1), (some 7), none⟩,
  ⟨.load none (.tmp 7), (some 8), none⟩,
  ⟨.fieldAddr 2 (.tmp 1), (some 9), none⟩,
  ⟨.load none (.tmp 9), (some 10), none⟩,
  ⟨.build [(.float .f64 0), (.float .f64 0), (.float .f64 0)] [(0, 1, (.tmp 6)), (1, 1, (.tmp 8)), (2, 1, (.tmp 10))], (some 11), none⟩,
  ⟨.move (.const (.int .i64 0)), (some 12), none⟩]
def o7_3 : List AOper := [⟨.bin .lss (.tmp 12) (.const (.int .i64 3)), (some 13), none⟩]
def o7_4 : List AOper := [⟨.idxArr 3 1 false (.tmp 11) (.tmp 12), (some 14), none⟩,
  ⟨.move (.tmp 14), (some 4), none⟩]
def o7_5 : List AOper := [⟨.move (.tmp 4), (some 15), none⟩,
  ⟨.bin .gtr (.tmp 15) (.const (.float .f64 0)), (some 16), none⟩,
  ⟨.un .not (.tmp 16), (some 17), none⟩,
  ⟨.move (.tmp 17), (some 18), none⟩,
  ⟨.move (.tmp 4), (some 19), (some (18, false))⟩,
  ⟨.call (.func 18) [(.tmp 19)], (some 20), (some (18, false))⟩,
  ⟨.un .not (.tmp 20), (some 21), (some (18, false))⟩,
  ⟨.pick (.tmp 18) (.const (.bool true)) (.tmp 21), (some 22), none⟩]
def o7_6 : List AOper := [⟨.move (.const (.int .i64 80)), (some 2), none⟩]
def o7_7 : List AOper := [⟨.bin .add (.tmp 12) (.const (.int .i64 1)), (some 23), none⟩,
  ⟨.move (.tmp 23), (some 12), none⟩]
def b7_2 : ACode := (.seq (.ops o7_3) (.seq (.cond (.tmp 13) .skip (.exit 0)) (.seq (.block 1 (.seq (.ops o7_4) (.seq (.ops o7_5) (.cond (.tmp 22) (.seq (.ops o7_6) .ret) .skip)))) (.ops o7_7))))
def o7_8 : List AOper := [⟨.fieldAddr 3 (.tmp 1), (some 25), none⟩,
  ⟨.load none (.tmp 25), (some 26), none⟩,
  ⟨.bin .lss (.tmp 26) (.const (.int .i64 1)), (some 27), none⟩,
  ⟨.move (.tmp 27), (some 24), none⟩]
def o7_9 : List AOper := [⟨.fieldAddr 3 (.tmp 1), (some 28), none⟩,
  ⟨.load none (.tmp 28), (some 29), none⟩,
  ⟨.bin .gtr (.tmp 29) (.const (.int .i64 16384)), (some 30), none⟩,
  ⟨.move (.tmp 30), (some 24), none⟩]
def o7_10 : List AOper := [⟨.fieldAddr 4 (.tmp 1), (some 31), none⟩,
  ⟨.load none (.tmp 31), (some 32), none⟩,
  ⟨.bin .lss (.tmp 32) (.const (.int .i64 1)), (some 33), none⟩,
  ⟨.move (.tmp 33), (some 24), none⟩]
def o7_11 : List AOper := [⟨.fieldAddr 4 (.tmp 1), (some 34), none⟩,
  ⟨.load none (.tmp 34), (some 35), none⟩,
  ⟨.bin .gtr (.tmp 35) (.const (.int .i64 256)), (some 36), none⟩,
  ⟨.move (.tmp 36), (some 24), none⟩]
def o7_12 : List AOper := [⟨.move (.const (.int .i64 80)), (some 2), none⟩]
def o7_13 : List AOper := [⟨.fieldAddr 3 (.tmp 1), (some 38), none⟩,
  ⟨.load none (.tmp 38), (some 39), none⟩,
  ⟨.fieldAddr 4 (.tmp 1), (some 40), none⟩,
  ⟨.load none (.tmp 40), (some 41), none⟩,
  ⟨.bin .mul (.tmp 39) (.tmp 41), (some 42), none⟩,
  ⟨.bin .gtr (.tmp 42) (.const (.int .i64 262144)), (some 43), none⟩,
  ⟨.move (.tmp 43), (some 37), none⟩]
def o7_14 : List AOper := [⟨.move (.const (.int .i64 3)), (some 2), none⟩]
def o7_15 : List AOper := [⟨.move (.const (.int .i64 0)), (some 2), none⟩]
def ir7 : AFn := ⟨44, [.tmp 2], (.seq (.ops o7_0) (.seq (.seq (.ops o7_1) (.block 0 (.loop b7_2))) (.seq (.block 2 (.seq (.seq (.ops o7_8) (.cond (.tmp 24) .skip (.seq (.ops o7_9) (.cond (.tmp 24) .skip (.seq (.ops o7_10) (.cond (.tmp 24) .skip (.ops o7_11))))))) (.cond (.tmp 24) (.seq (.ops o7_12) .ret) (.seq (.ops o7_13) (.cond (.tmp 37) (.seq (.ops o7_14) .ret) .skip))))) (.seq (.ops o7_15) .ret))))⟩
theorem ir7_eq : fnsOf Tryz.prog 7 = some ir7 := by kernel_rfl

/-! F8 lookout/pulse.Code -/
def o8_0 : List AOper := [⟨.move (.const (.slice none 0 0)), (some 2), none⟩,
  ⟨.move (.const (.int .i64 0)), (some 3), none⟩]
def o8_1 : List AOper := [⟨.build [(.int .i64 0), (.int .i64 0), (.int .i64 0), (.int .i64 0), (.int .i64 0), (.int .i64 0), (.int .i64 0), (.int .i64 0)] [(1, 1, (.const (.int .i64 2))), (2, 1, (.const (.int .i64 3))), (3, 1, (.const (.int .i64 4))), (4, 1, (.const (.int .i64 5))), (5, 1, (.const (.int .i64 7))), (6, 1, (.const (.int .i64 11))), (7, 1, (.const (.int .i64 13)))], (some 5), none⟩,
  ⟨.alloc 59 [(.int .i64 0), (.int .i64 0), (.int .i64 0), (.int .i64 0), (.int .i64 0), (.int .i64 0), (.int .i64 0), (.int .i64 0)], (some 4), none⟩,
  ⟨.store 8 (.tmp 4) (.tmp 5), none, none⟩]
def o8_2 : List AOper := [⟨.move (.tmp 0), (some 7), none⟩,
  ⟨.bin .eql (.tmp 7) (.const (.int .i64 0)), (some 8), none⟩,
  ⟨.move (.tmp 8), (some 6), none⟩]
def o8_3 : List AOper := [⟨.buildSlice 60 1 [(.complex .f64 0 0)] 1 [(0, (.const (.complex .f64 4607182418800017408 0)))], (some 9), none⟩,
  ⟨.move (.tmp 9), (some 2), none⟩,
  ⟨.move (.const (.int .i64 0)), (some 3), none⟩]
def o8_4 : List AOper := [⟨.move (.tmp 0), (some 11), none⟩,
  ⟨.bin .gtr (.tmp 11) (.const (.int .i64 0)), (some 12), none⟩,
  ⟨.move (.tmp 12), (some 13), none⟩,
  ⟨.move (.tmp 0), (some 14), (some (13, true))⟩,
  ⟨.bin .lss (.tmp 14) (.const (.int .i64 8)), (some 15), (some (13, true))⟩,
  ⟨.pick (.tmp 13) (.tmp 15) (.const (.bool false)), (some 16), none⟩,
  ⟨.move (.tmp 16), (some 10), none⟩]
def o8_5 : List AOper := [⟨.move (.tmp 0), (some 17), none⟩,
  ⟨.addrArr 8 1 (.tmp 4) (.tmp 17), (some 18), none⟩,
  ⟨.load none (.tmp 18), (some 19), none⟩,
  ⟨.call (.func 19) [(.tmp 19)], (some 20), none⟩,
  ⟨.extract (.tmp 20) 0, (some 21), none⟩,
  ⟨.extract (.tmp 20) 1, (some 22), none⟩,
  ⟨.move (.tmp 21), (some 2), none⟩,
  ⟨.move (.tmp 22), (some 3), none⟩]
def o8_6 : List AOper := [⟨.move (.tmp 0), (some 24), none⟩,
  ⟨.bin .eql (.tmp 24) (.const (.int .i64 8)), (some 25), none⟩,
  ⟨.move (.tmp 25), (some 23), none⟩]
def o8_7 : List AOper := [⟨.call (.func 20) [(.const (.int .i64 4))], (some 26), none⟩,
  ⟨.extract (.tmp 26) 0, (some 27), none⟩,
  ⟨.extract (.tmp 26) 1, (some 28), none⟩,
  ⟨.move (.tmp 27), (some 2), none⟩,
  ⟨.move (.tmp 28), (some 3), none⟩]
def o8_8 : List AOper := [⟨.move (.tmp 0), (some 30), none⟩,
  ⟨.bin .eql (.tmp 30) (.const (.int .i64 9)), (some 31), none⟩,
  ⟨.move (.tmp 31), (some 29), none⟩]
def o8_9 : List AOper := [⟨.call (.func 20) [(.const (.int .i64 8))], (some 32), none⟩,
  ⟨.extract (.tmp 32) 0, (some 33), none⟩,
  ⟨.extract (.tmp 32) 1, (some 34), none⟩,
  ⟨.move (.tmp 33), (some 2), none⟩,
  ⟨.move (.tmp 34), (some 3), none⟩]
def o8_10 : List AOper := [⟨.move (.tmp 0), (some 36), none⟩,
  ⟨.bin .eql (.tmp 36) (.const (.int .i64 10)), (some 37), none⟩,
  ⟨.move (.tmp 37), (some 35), none⟩]
def o8_11 : List AOper := [⟨.call (.func 21) [(.const (.int .i64 32)), (.const (.float .f64 4620693217682128896))], (some 38), none⟩,
  ⟨.extract (.tmp 38) 0, (some 39), none⟩,
  ⟨.extract (.tmp 38) 1, (some 40), none⟩,
  ⟨.move (.tmp 39), (some 2), none⟩,
  ⟨.move (.tmp 40), (some 3), none⟩]
def o8_12 : List AOper := [⟨.move (.tmp 0), (some 42), none⟩,
  ⟨.bin .eql (.tmp 42) (.const (.int .i64 11)), (some 43), none⟩,
  ⟨.move (.tmp 43), (some 41), none⟩]
def o8_13 : List AOper := [⟨.call (.func 21) [(.const (.int .i64 64)), (.const (.float .f64 4625196817309499392))], (some 44), none⟩,
  ⟨.extract (.tmp 44) 0, (some 45), none⟩,
  ⟨.extract (.tmp 44) 1, (some 46), none⟩,
  ⟨.move (.tmp 45), (some 2), none⟩,
  ⟨.move (.tmp 46), (some 3), none⟩]
def o8_14 : List AOper := [⟨.move (.tmp 0), (some 48), none⟩,
  ⟨.bin .eql (.tmp 48) (.const (.int .i64 12)), (some 49), none⟩,
  ⟨.move (.tmp 49), (some 47), none⟩]
def o8_15 : List AOper := [⟨.buildSlice 3 1 [(.int .i64 0)] 10 [(0, (.const (.int .i64 1))), (1, (.const (.int .i64 2))), (2, (.const (.int .i64 4))), (3, (.const (.int .i64 8))), (4, (.const (.int .i64 5))), (5, (.const (.int .i64 10))), (6, (.const (.int .i64 9))), (7, (.const (.int .i64 7))), (8, (.const (.int .i64 3))), (9, (.const (.int .i64 6)))], (some 50), none⟩,
  ⟨.call (.func 22) [(.tmp 50), (.const (.int .i64 16))], (some 51), none⟩,
  ⟨.extract (.tmp 51) 0, (some 52), none⟩,
  ⟨.extract (.tmp 51) 1, (some 53), none⟩,
  ⟨.move (.tmp 52), (some 2), none⟩,
  ⟨.move (.tmp 53), (some 3), none⟩]
def o8_16 : List AOper := [⟨.move (.const (.slice none 0 0)), (some 2), none⟩,
  ⟨.move (.const (.int .i64 40)), (some 3), none⟩]
def ir8 : AFn := ⟨54, [.tmp 2, .tmp 3], (.seq (.ops o8_0) (.seq (.ops o8_1) (.seq (.block 0 (.seq (.ops o8_2) (.cond (.tmp 6) (.seq (.ops o8_3) .ret) (.seq (.ops o8_4) (.cond (.tmp 10) (.seq (.ops o8_5) .ret) (.seq (.ops o8_6) (.cond (.tmp 23) (.seq (.ops o8_7) .ret) (.seq (.ops o8_8) (.cond (.tmp 29) (.seq (.ops o8_9) .ret) (.seq (.ops o8_10) (.cond (.tmp 35) (.seq (.ops o8_11) .ret) (.seq (.ops o8_12) (.cond (.tmp 41) (.seq (.ops o8_13) .ret) (.seq (.ops o8_14) (.cond (.tmp 47) (.seq (.ops o8_15) .ret) .skip))))))))))))))) (.seq (.ops o8_16) .ret))))⟩
theorem ir8_eq : fnsOf Tryz.prog 8 = some ir8 := by kernel_rfl

/-! F9 lookout/dwell.in -/
def o9_0 : List AOper := [⟨.move (.const (.bool false)), (some 6), none⟩]
def o9_1 : List AOper := [⟨.move (.tmp 0), (some 7), none⟩,
  ⟨.move (.tmp 1), (some 8), none⟩,
  ⟨.bin .geq (.tmp 7) (.tmp 8), (some 9), none⟩,
  ⟨.move (.tmp 9), (some 10), none⟩,
  ⟨.move (.tmp 0), (some 11), (some (10, true))⟩,
  ⟨.move (.tmp 2), (some 12), (some (10, true))⟩,
  ⟨.bin .leq (.tmp 11) (.tmp 12), (some 13), (some (10, true))⟩,
  ⟨.pick (.tmp 10) (.tmp 13) (.const (.bool false)), (some 14), none⟩,
  ⟨.move (.tmp 14), (some 6), none⟩]
def ir9 : AFn := ⟨15, [.tmp 6], (.seq (.ops o9_0) (.seq (.ops o9_1) .ret))⟩
theorem ir9_eq : fnsOf Tryz.prog 9 = some ir9 := by kernel_rfl

/-! F10 lookout/dwell.finite -/
def o10_0 : List AOper := [⟨.move (.const (.bool false)), (some 2), none⟩]
def o10_1 : List AOper := [⟨.move (.tmp 0), (some 3), none⟩,
  ⟨.call (.func 23) [(.tmp 3)], (some 4), none⟩,
  ⟨.un .not (.tmp 4), (some 5), none⟩,
  ⟨.move (.tmp 5), (some 6), none⟩,
  ⟨.move (.tmp 0), (some 7), (some (6, true))⟩,
  ⟨.call (.func 24) [(.tmp 7), (.const (.int .i64 0))], (some 8), (some (6, true))⟩,
  ⟨.un .not (.tmp 8), (some 9), (some (6, true))⟩,
  ⟨.pick (.tmp 6) (.tmp 9) (.const (.bool false)), (some 10), none⟩,
  ⟨.move (.tmp 10), (some 2), none⟩]
def ir10 : AFn := ⟨11, [.tmp 2], (.seq (.ops o10_0) (.seq (.ops o10_1) .ret))⟩
theorem ir10_eq : fnsOf Tryz.prog 10 = some ir10 := by kernel_rfl

/-! F14 lookout/lookoutlaw25.setup -/
def o14_0 : List AOper := [⟨.alloc 27 [(.float .f64 0), (.float .f64 0), (.float .f64 0), (.int .i64 0), (.int .i64 0), (.int .i64 0), (.int .i8 0), (.int .i64 0), (.int .i8 0), (.int .i64 0), (.int .i64 0), (.int .i64 0), (.float .f64 0), (.float .f64 0)], (some 0), none⟩]
def o14_1 : List AOper := [⟨.build [(.float .f64 0), (.float .f64 0), (.float .f64 0), (.int .i64 0), (.int .i64 0)] [(0, 1, (.const (.float .f64 4621819117588971520))), (1, 1, (.const (.float .f64 4602678819172646912))), (2, 1, (.const (.float .f64 4652007308841189376))), (3, 1, (.const (.int .i64 16))), (4, 1, (.const (.int .i64 4)))], (some 1), none⟩,
  ⟨.build [(.float .f64 0), (.float .f64 0), (.float .f64 0), (.int .i64 0), (.int .i64 0), (.int .i64 0), (.int .i8 0), (.int .i64 0), (.int .i8 0), (.int .i64 0), (.int .i64 0), (.int .i64 0), (.float .f64 0), (.float .f64 0)] [(0, 5, (.tmp 1)), (5, 1, (.const (.int .i64 3))), (9, 1, (.const (.int .i64 1))), (10, 1, (.const (.int .i64 4))), (12, 1, (.const (.float .f64 4620693217682128896)))], (some 2), none⟩,
  ⟨.store 14 (.tmp 0) (.tmp 2), none, none⟩]
def ir14 : AFn := ⟨3, [.cell 0 (some 14)], (.seq (.ops o14_0) (.seq (.ops o14_1) .ret))⟩
theorem ir14_eq : fnsOf Tryz.prog 14 = some ir14 := by kernel_rfl

/-! F15 lookout/dwell.Make -/
def o15_0 : List AOper := [⟨.box 27 (.tmp 0), (some 4), none⟩,
  ⟨.move (.const (.slice none 0 0)), (some 8), none⟩,
  ⟨.move (.const (.int .i64 0)), (some 9), none⟩]
def o15_1 : List AOper := [⟨.load (some 14) (.tmp 4), (some 13), none⟩,
  ⟨.call (.func 4) [(.tmp 13)], (some 14), none⟩,
  ⟨.move (.tmp 14), (some 10), none⟩]
def o15_2 : List AOper := [⟨.move (.tmp 10), (some 15), none⟩,
  ⟨.bin .neq (.tmp 15) (.const (.int .i64 0)), (some 16), none⟩]
def o15_3 : List AOper := [⟨.move (.tmp 10), (some 17), none⟩,
  ⟨.move (.const (.slice none 0 0)), (some 8), none⟩,
  ⟨.move (.tmp 17), (some 9), none⟩]
def o15_4 : List AOper := [⟨.fieldAddr 5 (.tmp 4), (some 19), none⟩,
  ⟨.load none (.tmp 19), (some 20), none⟩,
  ⟨.call (.func 8) [(.tmp 20)], (some 21), none⟩,
  ⟨.move (.tmp 21), (some 18), none⟩,
  ⟨.extract (.tmp 18) 0, (some 22), none⟩,
  ⟨.extract (.tmp 18) 1, (some 23), none⟩,
  ⟨.move (.tmp 22), (some 11), none⟩,
  ⟨.move (.tmp 23), (some 12), none⟩]
def o15_5 : List AOper := [⟨.move (.tmp 12), (some 24), none⟩,
  ⟨.bin .neq (.tmp 24) (.const (.int .i64 0)), (some 25), none⟩]
def o15_6 : List AOper := [⟨.move (.tmp 12), (some 26), none⟩,
  ⟨.move (.const (.slice none 0 0)), (some 8), none⟩,
  ⟨.move (.tmp 26), (some 9), none⟩]
def o15_7 : List AOper := [⟨.fieldAddr 0 (.tmp 4), (some 27), none⟩,
  ⟨.load (some 5) (.tmp 27), (some 28), none⟩,
  ⟨.move (.tmp 11), (some 29), none⟩,
  ⟨.move (.tmp 1), (some 30), none⟩,
  ⟨.move (.tmp 2), (some 31), none⟩,
  ⟨.fieldAddr 13 (.tmp 4), (some 32), none⟩,
  ⟨.load none (.tmp 32), (some 33), none⟩,
  ⟨.move (.tmp 3), (some 34), none⟩,
  ⟨.call (.func 29) [(.tmp 28), (.tmp 29), (.tmp 30), (.tmp 31), (.tmp 33), (.tmp 34)], (some 35), none⟩,
  ⟨.extract (.tmp 35) 0, (some 36), none⟩,
  ⟨.extract (.tmp 35) 1, (some 37), none⟩,
  ⟨.move (.tmp 36), (some 8), none⟩,
  ⟨.move (.tmp 37), (some 9), none⟩]
def ir15 : AFn := ⟨38, [.tmp 8, .tmp 9], (.seq (.ops o15_0) (.seq (.seq (.ops o15_1) (.seq (.ops o15_2) (.cond (.tmp 16) (.seq (.ops o15_3) .ret) .skip))) (.seq (.ops o15_4) (.seq (.seq (.ops o15_5) (.cond (.tmp 25) (.seq (.ops o15_6) .ret) .skip)) (.seq (.ops o15_7) .ret)))))⟩
theorem ir15_eq : fnsOf Tryz.prog 15 = some ir15 := by kernel_rfl

/-! F16 lookout/dwell.Cells -/
def o16_0 : List AOper := [⟨.box 27 (.tmp 0), (some 2), none⟩,
  ⟨.move (.const (.slice none 0 0)), (some 4), none⟩,
  ⟨.move (.const (.int .i64 0)), (some 5), none⟩]
def o16_1 : List AOper := [⟨.load (some 14) (.tmp 2), (some 13), none⟩,
  ⟨.call (.func 4) [(.tmp 13)], (some 14), none⟩,
  ⟨.move (.tmp 14), (some 6), none⟩]
def o16_2 : List AOper := [⟨.move (.tmp 6), (some 15), none⟩,
  ⟨.bin .neq (.tmp 15) (.const (.int .i64 0)), (some 16), none⟩]
def o16_3 : List AOper := [⟨.move (.tmp 6), (some 17), none⟩,
  ⟨.move (.const (.slice none 0 0)), (some 4), none⟩,
  ⟨.move (.tmp 17), (some 5), none⟩]
def o16_4 : List AOper := [⟨.move (.tmp 1), (some 18), none⟩,
  ⟨.bu .len [(.tmp 18)], (some 19), none⟩,
  ⟨.fieldAddr 0 (.tmp 2), (some 20), none⟩,
  ⟨.fieldAddr 4 (.tmp 20), (some 21), none⟩,
  ⟨.load none (.tmp 21), (some 22), none⟩,
  ⟨.bin .neq (.tmp 19) (.tmp 22), (some 23), none⟩]
def o16_5 : List AOper := [⟨.move (.const (.slice none 0 0)), (some 4), none⟩,
  ⟨.move (.const (.int .i64 5)), (some 5), none⟩]
def o16_6 : List AOper := [⟨.move (.tmp 1), (some 24), none⟩,
  ⟨.bu .len [(.tmp 24)], (some 25), none⟩,
  ⟨.move (.const (.int .i64 0)), (some 26), none⟩]
def o16_8 : List AOper := [⟨.bin .lss (.tmp 26) (.tmp 25), (some 27), none⟩]
def o16_9 : List AOper := [⟨.addrSl 1 (.tmp 24) (.tmp 26), (some 28), none⟩,
  ⟨.load none (.tmp 28), (some 29), none⟩,
  ⟨.move (.tmp 29), (some 8), none⟩]
def o16_10 : List AOper := [⟨.move (.tmp 8), (some 30), none⟩,
  ⟨.bu .len [(.tmp 30)], (some 31), none⟩,
  ⟨.fieldAddr 0 (.tmp 2), (some 32), none⟩,
  ⟨.fieldAddr 3 (.tmp 32), (some 33), none⟩,
  ⟨.load none (.tmp 33), (some 34), none⟩,
  ⟨.bin .neq (.tmp 31) (.tmp 34), (some 35), none⟩]
def o16_11 : List AOper := [⟨.move (.const (.slice none 0 0)), (some 4), none⟩,
  ⟨.move (.const (.int .i64 5)), (some 5), none⟩]
def o16_12 : List AOper := [⟨.bin .add (.tmp 26) (.const (.int .i64 1)), (some 36), none⟩,
  ⟨.move (.tmp 36), (some 26), none⟩]
def b16_7 : ACode := (.seq (.ops o16_8) (.seq (.cond (.tmp 27) .skip (.exit 0)) (.seq (.block 1 (.seq (.ops o16_9) (.seq (.ops o16_10) (.cond (.tmp 35) (.seq (.ops o16_11) .ret) .skip)))) (.ops o16_12))))
def o16_13 : List AOper := [⟨.load (some 14) (.tmp 2), (some 37), none⟩,
  ⟨.call (.func 30) [(.tmp 37)], (some 38), none⟩,
  ⟨.bu .len [(.tmp 38)], (some 39), none⟩,
  ⟨.move (.const (.int .i64 0)), (some 40), none⟩]
def o16_15 : List AOper := [⟨.bin .lss (.tmp 40) (.tmp 39), (some 41), none⟩]
def o16_16 : List AOper := [⟨.addrSl 1 (.tmp 38) (.tmp 40), (some 42), none⟩,
  ⟨.load none (.tmp 42), (some 43), none⟩,
  ⟨.move (.tmp 43), (some 10), none⟩]
def o16_17 : List AOper := [⟨.move (.tmp 10), (some 45), none⟩,
  ⟨.move (.tmp 1), (some 46), none⟩,
  ⟨.call (.tmp 45) [(.tmp 46)], (some 47), none⟩,
  ⟨.move (.tmp 47), (some 44), none⟩,
  ⟨.extract (.tmp 44) 0, (some 48), none⟩,
  ⟨.extract (.tmp 44) 1, (some 49), none⟩,
  ⟨.move (.tmp 48), (some 11), none⟩,
  ⟨.move (.tmp 49), (some 12), none⟩]
def o16_18 : List AOper := [⟨.move (.tmp 12), (some 50), none⟩,
  ⟨.bin .neq (.tmp 50) (.const (.int .i64 0)), (some 51), none⟩]
def o16_19 : List AOper := [⟨.move (.tmp 12), (some 52), none⟩,
  ⟨.move (.const (.slice none 0 0)), (some 4), none⟩,
  ⟨.move (.tmp 52), (some 5), none⟩]
def o16_20 : List AOper := [⟨.move (.tmp 11), (some 53), none⟩,
  ⟨.move (.tmp 53), (some 1), none⟩]
def o16_21 : List AOper := [⟨.bin .add (.tmp 40) (.const (.int .i64 1)), (some 54), none⟩,
  ⟨.move (.tmp 54), (some 40), none⟩]
def b16_14 : ACode := (.seq (.ops o16_15) (.seq (.cond (.tmp 41) .skip (.exit 2)) (.seq (.block 3 (.seq (.ops o16_16) (.seq (.ops o16_17) (.seq (.seq (.ops o16_18) (.cond (.tmp 51) (.seq (.ops o16_19) .ret) .skip)) (.ops o16_20))))) (.ops o16_21))))
def o16_22 : List AOper := [⟨.move (.tmp 1), (some 55), none⟩,
  ⟨.call (.func 31) [(.tmp 55)], (some 56), none⟩,
  ⟨.move (.tmp 56), (some 4), none⟩,
  ⟨.move (.const (.int .i64 0)), (some 5), none⟩]
def ir16 : AFn := ⟨57, [.tmp 4, .tmp 5], (.seq (.ops o16_0) (.seq (.seq (.ops o16_1) (.seq (.ops o16_2) (.cond (.tmp 16) (.seq (.ops o16_3) .ret) .skip))) (.seq (.seq (.ops o16_4) (.cond (.tmp 23) (.seq (.ops o16_5) .ret) .skip)) (.seq (.seq (.ops o16_6) (.block 0 (.loop b16_7))) (.seq (.seq (.ops o16_13) (.block 2 (.loop b16_14))) (.seq (.ops o16_22) .ret))))))⟩
theorem ir16_eq : fnsOf Tryz.prog 16 = some ir16 := by kernel_rfl

/-! F17 lookout/dwell.Plots -/
def o17_0 : List AOper := [⟨.box 27 (.tmp 0), (some 4), none⟩,
  ⟨.move (.const (.slice none 0 0)), (some 8), none⟩,
  ⟨.move (.const (.int .i64 0)), (some 9), none⟩]
def o17_1 : List AOper := [⟨.load (some 14) (.tmp 4), (some 23), none⟩,
  ⟨.move (.tmp 1), (some 24), none⟩,
  ⟨.call (.func 16) [(.tmp 23), (.tmp 24)], (some 25), none⟩,
  ⟨.move (.tmp 25), (some 22), none⟩,
  ⟨.extract (.tmp 22) 0, (some 26), none⟩,
  ⟨.extract (.tmp 22) 1, (some 27), none⟩,
  ⟨.move (.tmp 26), (some 10), none⟩,
  ⟨.move (.tmp 27), (some 11), none⟩]
def o17_2 : List AOper := [⟨.move (.tmp 11), (some 29), none⟩,
  ⟨.bin .neq (.tmp 29) (.const (.int .i64 0)), (some 30), none⟩,
  ⟨.move (.tmp 30), (some 28), none⟩]
def o17_3 : List AOper := [⟨.move (.tmp 11), (some 31), none⟩,
  ⟨.move (.const (.slice none 0 0)), (some 8), none⟩,
  ⟨.move (.tmp 31), (some 9), none⟩]
def o17_4 : List AOper := [⟨.move (.tmp 2), (some 33), none⟩,
  ⟨.call (.func 10) [(.tmp 33)], (some 34), none⟩,
  ⟨.un .not (.tmp 34), (some 35), none⟩,
  ⟨.move (.tmp 35), (some 32), none⟩]
def o17_5 : List AOper := [⟨.move (.tmp 3), (some 36), none⟩,
  ⟨.call (.func 10) [(.tmp 36)], (some 37), none⟩,
  ⟨.un .not (.tmp 37), (some 38), none⟩,
  ⟨.move (.tmp 38), (some 32), none⟩]
def o17_6 : List AOper := [⟨.move (.const (.slice none 0 0)), (some 8), none⟩,
  ⟨.move (.const (.int .i64 6)), (some 9), none⟩]
def o17_7 : List AOper := [⟨.move (.tmp 10), (some 40), none⟩,
  ⟨.fieldAddr 8 (.tmp 4), (some 41), none⟩,
  ⟨.load none (.tmp 41), (some 42), none⟩,
  ⟨.fieldAddr 9 (.tmp 4), (some 43), none⟩,
  ⟨.load none (.tmp 43), (some 44), none⟩,
  ⟨.fieldAddr 10 (.tmp 4), (some 45), none⟩,
  ⟨.load none (.tmp 45), (some 46), none⟩,
  ⟨.fieldAddr 11 (.tmp 4), (some 47), none⟩,
  ⟨.load none (.tmp 47), (some 48), none⟩,
  ⟨.fieldAddr 12 (.tmp 4), (some 49), none⟩,
  ⟨.load none (.tmp 49), (some 50), none⟩,
  ⟨.call (.func 32) [(.tmp 40), (.tmp 42), (.tmp 44), (.tmp 46), (.tmp 48), (.tmp 50)], (some 51), none⟩,
  ⟨.move (.tmp 51), (some 39), none⟩,
  ⟨.extract (.tmp 39) 0, (some 52), none⟩,
  ⟨.extract (.tmp 39) 1, (some 53), none⟩,
  ⟨.move (.tmp 52), (some 12), none⟩,
  ⟨.move (.tmp 53), (some 11), none⟩]
def o17_8 : List AOper := [⟨.move (.tmp 11), (some 54), none⟩,
  ⟨.bin .neq (.tmp 54) (.const (.int .i64 0)), (some 55), none⟩]
def o17_9 : List AOper := [⟨.move (.tmp 11), (some 56), none⟩,
  ⟨.move (.const (.slice none 0 0)), (some 8), none⟩,
  ⟨.move (.tmp 56), (some 9), none⟩]
def o17_10 : List AOper := [⟨.fieldAddr 0 (.tmp 4), (some 57), none⟩,
  ⟨.load (some 5) (.tmp 57), (some 58), none⟩,
  ⟨.alloc 24 [(.float .f64 0), (.float .f64 0), (.float .f64 0), (.int .i64 0), (.int .i64 0)], (some 13), none⟩,
  ⟨.store 5 (.tmp 13) (.tmp 58), none, none⟩]
def o17_11 : List AOper := [⟨.move (.tmp 10), (some 59), none⟩,
  ⟨.bu .len [(.tmp 59)], (some 60), none⟩,
  ⟨.fieldAddr 4 (.tmp 13), (some 61), none⟩,
  ⟨.store 1 (.tmp 61) (.tmp 60), none, none⟩]
def o17_12 : List AOper := [⟨.move (.const (.slice none 0 0)), (some 14), none⟩]
def o17_13 : List AOper := [⟨.move (.tmp 12), (some 62), none⟩,
  ⟨.fieldAddr 4 (.tmp 13), (some 63), none⟩,
  ⟨.load none (.tmp 63), (some 64), none⟩,
  ⟨.call (.func 33) [(.tmp 62), (.tmp 64)], (some 65), none⟩,
  ⟨.bu .len [(.tmp 65)], (some 66), none⟩,
  ⟨.move (.const (.int .i64 0)), (some 67), none⟩]
def o17_15 : List AOper := [⟨.bin .lss (.tmp 67) (.tmp 66), (some 68), none⟩]
def o17_16 : List AOper := [⟨.addrSl 1 (.tmp 65) (.tmp 67), (some 69), none⟩,
  ⟨.load none (.tmp 69), (some 70), none⟩,
  ⟨.move (.tmp 70), (some 16), none⟩]
def d17_17 : List DOper := [⟨⟨.load (some 5) (.tmp 13), (some 72), none⟩, 0⟩,
  ⟨⟨.move (.tmp 16), (some 73), none⟩, 0⟩,
  ⟨⟨.fieldAddr 4 (.tmp 13), (some 74), none⟩, 0⟩,
  ⟨⟨.load none (.tmp 74), (some 75), none⟩, 4⟩,
  ⟨⟨.call (.func 35) [(.tmp 73), (.tmp 75)], (some 76), none⟩, 14⟩,
  ⟨⟨.move (.tmp 3), (some 77), none⟩, 0⟩,
  ⟨⟨.call (.func 34) [(.tmp 72), (.tmp 76), (.tmp 77)], (some 78), none⟩, 63⟩,
  ⟨⟨.move (.tmp 78), (some 71), none⟩, 127⟩,
  ⟨⟨.extract (.tmp 71) 0, (some 79), none⟩, 255⟩,
  ⟨⟨.extract (.tmp 71) 1, (some 80), none⟩, 255⟩,
  ⟨⟨.alloc 57 [(.float .f64 0), (.float .f64 0), (.float .f64 0), (.float .f64 0), (.float .f64 0)], (some 17), none⟩, 0⟩,
  ⟨⟨.store 5 (.tmp 17) (.tmp 79), none, none⟩, 1535⟩,
  ⟨⟨.move (.tmp 80), (some 18), none⟩, 4095⟩]
def o17_18 : List AOper := [⟨.move (.tmp 18), (some 81), none⟩,
  ⟨.bin .eql (.tmp 81) (.const (.int .i64 0)), (some 82), none⟩]
def o17_19 : List AOper := [⟨.move (.tmp 2), (some 83), none⟩,
  ⟨.fieldAddr 3 (.tmp 17), (some 84), none⟩,
  ⟨.store 1 (.tmp 84) (.tmp 83), none, none⟩]
def o17_20 : List AOper := [⟨.move (.tmp 14), (some 85), none⟩,
  ⟨.load (some 5) (.tmp 17), (some 86), none⟩,
  ⟨.buildSlice 57 5 [(.float .f64 0), (.float .f64 0), (.float .f64 0), (.float .f64 0), (.float .f64 0)] 1 [(0, (.tmp 86))], (some 87), none⟩,
  ⟨.append 57 40 5 [(.float .f64 0), (.float .f64 0), (.float .f64 0), (.float .f64 0), (.float .f64 0)] (.tmp 85) (.tmp 87), (some 88), none⟩,
  ⟨.move (.tmp 88), (some 14), none⟩]
def o17_21 : List AOper := [⟨.bin .add (.tmp 67) (.const (.int .i64 1)), (some 89), none⟩,
  ⟨.move (.tmp 89), (some 67), none⟩]
def b17_14 : ACode := (.seq (.ops o17_15) (.seq (.cond (.tmp 68) .skip (.exit 1)) (.seq (.block 2 (.seq (.ops o17_16) (.seq (.draw d17_17) (.seq (.ops o17_18) (.cond (.tmp 82) (.seq (.ops o17_19) (.ops o17_20)) .skip))))) (.ops o17_21))))
def o17_22 : List AOper := [⟨.move (.const (.slice none 0 0)), (some 19), none⟩]
def o17_23 : List AOper := [⟨.move (.tmp 14), (some 90), none⟩,
  ⟨.call (.func 36) [(.tmp 90)], (some 91), none⟩,
  ⟨.bu .len [(.tmp 91)], (some 92), none⟩,
  ⟨.move (.const (.int .i64 0)), (some 93), none⟩]
def o17_25 : List AOper := [⟨.bin .lss (.tmp 93) (.tmp 92), (some 94), none⟩]
def o17_26 : List AOper := [⟨.addrSl 1 (.tmp 91) (.tmp 93), (some 95), none⟩,
  ⟨.load none (.tmp 95), (some 96), none⟩,
  ⟨.move (.tmp 96), (some 21), none⟩]
def o17_27 : List AOper := [⟨.move (.tmp 19), (some 97), none⟩,
  ⟨.bu .len [(.tmp 97)], (some 98), none⟩,
  ⟨.bin .lss (.tmp 98) (.const (.int .i64 256)), (some 99), none⟩]
def o17_28 : List AOper := [⟨.move (.tmp 19), (some 100), none⟩,
  ⟨.move (.tmp 14), (some 101), none⟩,
  ⟨.move (.tmp 21), (some 102), none⟩,
  ⟨.addrSl 5 (.tmp 101) (.tmp 102), (some 103), none⟩,
  ⟨.load (some 5) (.tmp 103), (some 104), none⟩,
  ⟨.buildSlice 57 5 [(.float .f64 0), (.float .f64 0), (.float .f64 0), (.float .f64 0), (.float .f64 0)] 1 [(0, (.tmp 104))], (some 105), none⟩,
  ⟨.append 57 40 5 [(.float .f64 0), (.float .f64 0), (.float .f64 0), (.float .f64 0), (.float .f64 0)] (.tmp 100) (.tmp 105), (some 106), none⟩,
  ⟨.move (.tmp 106), (some 19), none⟩]
def o17_29 : List AOper := [⟨.bin .add (.tmp 93) (.const (.int .i64 1)), (some 107), none⟩,
  ⟨.move (.tmp 107), (some 93), none⟩]
def b17_24 : ACode := (.seq (.ops o17_25) (.seq (.cond (.tmp 94) .skip (.exit 3)) (.seq (.block 4 (.seq (.ops o17_26) (.seq (.ops o17_27) (.cond (.tmp 99) (.ops o17_28) .skip)))) (.ops o17_29))))
def o17_30 : List AOper := [⟨.move (.tmp 19), (some 108), none⟩,
  ⟨.move (.tmp 108), (some 8), none⟩,
  ⟨.move (.const (.int .i64 0)), (some 9), none⟩]
def ir17 : AFn := ⟨109, [.tmp 8, .tmp 9], (.seq (.ops o17_0) (.seq (.ops o17_1) (.seq (.block 0 (.seq (.ops o17_2) (.cond (.tmp 28) (.seq (.ops o17_3) .ret) (.seq (.seq (.ops o17_4) (.cond (.tmp 32) .skip (.ops o17_5))) (.cond (.tmp 32) (.seq (.ops o17_6) .ret) .skip))))) (.seq (.ops o17_7) (.seq (.seq (.ops o17_8) (.cond (.tmp 55) (.seq (.ops o17_9) .ret) .skip)) (.seq (.ops o17_10) (.seq (.ops o17_11) (.seq (.ops o17_12) (.seq (.seq (.ops o17_13) (.block 1 (.loop b17_14))) (.seq (.ops o17_22) (.seq (.seq (.ops o17_23) (.block 3 (.loop b17_24))) (.seq (.ops o17_30) .ret))))))))))))⟩
theorem ir17_eq : fnsOf Tryz.prog 17 = some ir17 := by kernel_rfl

/-! F18 lookout/gate.fine -/
def o18_0 : List AOper := [⟨.move (.const (.bool false)), (some 2), none⟩]
def o18_1 : List AOper := [⟨.move (.tmp 0), (some 3), none⟩,
  ⟨.move (.tmp 0), (some 4), none⟩,
  ⟨.bin .sub (.tmp 3) (.tmp 4), (some 5), none⟩,
  ⟨.bin .eql (.tmp 5) (.const (.float .f64 0)), (some 6), none⟩,
  ⟨.move (.tmp 6), (some 2), none⟩]
def ir18 : AFn := ⟨7, [.tmp 2], (.seq (.ops o18_0) (.seq (.ops o18_1) .ret))⟩
theorem ir18_eq : fnsOf Tryz.prog 18 = some ir18 := by kernel_rfl

/-! F19 lookout/pulse.Barker -/
def o19_0 : List AOper := [⟨.move (.const (.slice none 0 0)), (some 2), none⟩,
  ⟨.move (.const (.int .i64 0)), (some 3), none⟩]
def o19_1 : List AOper := [⟨.move (.const (.slice none 0 0)), (some 4), none⟩]
def o19_2 : List AOper := [⟨.move (.tmp 0), (some 7), none⟩,
  ⟨.call (.func 37) [(.tmp 7)], (some 8), none⟩,
  ⟨.strIter (.tmp 8), (some 9), none⟩]
def o19_4 : List AOper := [⟨.nextStr (.tmp 9), (some 10), none⟩,
  ⟨.extract (.tmp 10) 0, (some 11), none⟩]
def o19_5 : List AOper := [⟨.extract (.tmp 10) 2, (some 12), none⟩,
  ⟨.move (.tmp 12), (some 6), none⟩]
def o19_6 : List AOper := [⟨.move (.tmp 6), (some 13), none⟩,
  ⟨.bin .eql (.tmp 13) (.const (.int .i32 43)), (some 14), none⟩]
def o19_7 : List AOper := [⟨.move (.tmp 4), (some 15), none⟩,
  ⟨.buildSlice 60 1 [(.complex .f64 0 0)] 1 [(0, (.const (.complex .f64 4607182418800017408 0)))], (some 16), none⟩,
  ⟨.append 60 16 1 [(.complex .f64 0 0)] (.tmp 15) (.tmp 16), (some 17), none⟩,
  ⟨.move (.tmp 17), (some 4), none⟩]
def o19_8 : List AOper := [⟨.move (.tmp 4), (some 18), none⟩,
  ⟨.buildSlice 60 1 [(.complex .f64 0 0)] 1 [(0, (.const (.complex .f64 13830554455654793216 0)))], (some 19), none⟩,
  ⟨.append 60 16 1 [(.complex .f64 0 0)] (.tmp 18) (.tmp 19), (some 20), none⟩,
  ⟨.move (.tmp 20), (some 4), none⟩]
def b19_3 : ACode := (.seq (.ops o19_4) (.seq (.cond (.tmp 11) .skip (.exit 0)) (.block 1 (.seq (.ops o19_5) (.seq (.ops o19_6) (.cond (.tmp 14) (.ops o19_7) (.ops o19_8)))))))
def o19_9 : List AOper := [⟨.move (.tmp 4), (some 21), none⟩,
  ⟨.eq false .slice (.tmp 21) (.const (.slice none 0 0)), (some 22), none⟩]
def o19_10 : List AOper := [⟨.move (.const (.slice none 0 0)), (some 2), none⟩,
  ⟨.move (.const (.int .i64 40)), (some 3), none⟩]
def o19_11 : List AOper := [⟨.move (.tmp 4), (some 23), none⟩,
  ⟨.move (.tmp 23), (some 2), none⟩,
  ⟨.move (.const (.int .i64 0)), (some 3), none⟩]
def ir19 : AFn := ⟨24, [.tmp 2, .tmp 3], (.seq (.ops o19_0) (.seq (.ops o19_1) (.seq (.seq (.ops o19_2) (.block 0 (.loop b19_3))) (.seq (.seq (.ops o19_9) (.cond (.tmp 22) (.seq (.ops o19_10) .ret) .skip)) (.seq (.ops o19_11) .ret)))))⟩
theorem ir19_eq : fnsOf Tryz.prog 19 = some ir19 := by kernel_rfl

/-! F23 math.IsNaN -/
def o23_0 : List AOper := [⟨.move (.const (.bool false)), (some 2), none⟩]
def o23_1 : List AOper := [⟨.move (.tmp 0), (some 3), none⟩,
  ⟨.move (.tmp 0), (some 4), none⟩,
  ⟨.bin .neq (.tmp 3) (.tmp 4), (some 5), none⟩,
  ⟨.move (.tmp 5), (some 2), none⟩]
def ir23 : AFn := ⟨6, [.tmp 2], (.seq (.ops o23_0) (.seq (.ops o23_1) .ret))⟩
theorem ir23_eq : fnsOf Tryz.prog 23 = some ir23 := by kernel_rfl

/-! F24 math.IsInf -/
def o24_0 : List AOper := [⟨.move (.const (.bool false)), (some 4), none⟩]
def o24_1 : List AOper := [⟨.move (.tmp 1), (some 5), none⟩,
  ⟨.bin .eql (.tmp 5) (.const (.int .i64 0)), (some 6), none⟩]
def o24_2 : List AOper := [⟨.move (.tmp 0), (some 7), none⟩,
  ⟨.ext 5 41 [(.tmp 7)], (some 8), none⟩,
  ⟨.move (.tmp 8), (some 0), none⟩]
def o24_3 : List AOper := [⟨.move (.tmp 1), (some 9), none⟩,
  ⟨.bin .lss (.tmp 9) (.const (.int .i64 0)), (some 10), none⟩]
def o24_4 : List AOper := [⟨.move (.tmp 0), (some 11), none⟩,
  ⟨.un .neg (.tmp 11), (some 12), none⟩,
  ⟨.move (.tmp 12), (some 0), none⟩]
def o24_5 : List AOper := [⟨.move (.tmp 0), (some 13), none⟩,
  ⟨.bin .gtr (.tmp 13) (.const (.float .f64 9218868437227405311)), (some 14), none⟩,
  ⟨.move (.tmp 14), (some 4), none⟩]
def ir24 : AFn := ⟨15, [.tmp 4], (.seq (.ops o24_0) (.seq (.seq (.ops o24_1) (.cond (.tmp 6) (.ops o24_2) (.seq (.ops o24_3) (.cond (.tmp 10) (.ops o24_4) .skip)))) (.seq (.ops o24_5) .ret)))⟩
theorem ir24_eq : fnsOf Tryz.prog 24 = some ir24 := by kernel_rfl

/-! F29 lookout/scene.Rows -/
def o29_0 : List AOper := [⟨.box 24 (.tmp 0), (some 6), none⟩,
  ⟨.move (.const (.slice none 0 0)), (some 12), none⟩,
  ⟨.move (.const (.int .i64 0)), (some 13), none⟩]
def o29_1 : List AOper := [⟨.load (some 5) (.tmp 6), (some 25), none⟩,
  ⟨.move (.tmp 1), (some 26), none⟩,
  ⟨.move (.tmp 2), (some 27), none⟩,
  ⟨.bu .len [(.tmp 27)], (some 28), none⟩,
  ⟨.call (.func 46) [(.tmp 25), (.tmp 26), (.tmp 28)], (some 29), none⟩,
  ⟨.move (.tmp 29), (some 14), none⟩]
def o29_2 : List AOper := [⟨.move (.tmp 14), (some 30), none⟩,
  ⟨.bin .neq (.tmp 30) (.const (.int .i64 0)), (some 31), none⟩]
def o29_3 : List AOper := [⟨.move (.tmp 14), (some 32), none⟩,
  ⟨.move (.const (.slice none 0 0)), (some 12), none⟩,
  ⟨.move (.tmp 32), (some 13), none⟩]
def o29_4 : List AOper := [⟨.move (.tmp 3), (some 33), none⟩,
  ⟨.move (.tmp 4), (some 34), none⟩,
  ⟨.buildSlice 22 1 [(.float .f64 0)] 2 [(0, (.tmp 33)), (1, (.tmp 34))], (some 35), none⟩,
  ⟨.call (.func 47) [(.tmp 35)], (some 36), none⟩,
  ⟨.move (.tmp 36), (some 37), none⟩,
  ⟨.move (.tmp 4), (some 38), (some (37, true))⟩,
  ⟨.bin .geq (.tmp 38) (.const (.float .f64 0)), (some 39), (some (37, true))⟩,
  ⟨.pick (.tmp 37) (.tmp 39) (.const (.bool false)), (some 40), none⟩,
  ⟨.move (.tmp 40), (some 15), none⟩]
def o29_5 : List AOper := [⟨.move (.tmp 2), (some 41), none⟩,
  ⟨.bu .len [(.tmp 41)], (some 42), none⟩,
  ⟨.move (.const (.int .i64 0)), (some 43), none⟩]
def o29_7 : List AOper := [⟨.bin .lss (.tmp 43) (.tmp 42), (some 44), none⟩]
def o29_8 : List AOper := [⟨.addrSl 5 (.tmp 41) (.tmp 43), (some 45), none⟩,
  ⟨.load (some 5) (.tmp 45), (some 46), none⟩,
  ⟨.alloc 46 [(.float .f64 0), (.float .f64 0), (.float .f64 0), (.float .f64 0), (.float .f64 0)], (some 17), none⟩,
  ⟨.store 5 (.tmp 17) (.tmp 46), none, none⟩]
def o29_9 : List AOper := [⟨.move (.tmp 15), (some 47), none⟩,
  ⟨.move (.tmp 47), (some 48), none⟩,
  ⟨.fieldAddr 0 (.tmp 17), (some 49), (some (48, true))⟩,
  ⟨.load none (.tmp 49), (some 50), (some (48, true))⟩,
  ⟨.fieldAddr 1 (.tmp 17), (some 51), (some (48, true))⟩,
  ⟨.load none (.tmp 51), (some 52), (some (48, true))⟩,
  ⟨.fieldAddr 2 (.tmp 17), (some 53), (some (48, true))⟩,
  ⟨.load none (.tmp 53), (some 54), (some (48, true))⟩,
  ⟨.fieldAddr 3 (.tmp 17), (some 55), (some (48, true))⟩,
  ⟨.load none (.tmp 55), (some 56), (some (48, true))⟩,
  ⟨.buildSlice 22 1 [(.float .f64 0)] 4 [(0, (.tmp 50)), (1, (.tmp 52)), (2, (.tmp 54)), (3, (.tmp 56))], (some 57), (some (48, true))⟩,
  ⟨.call (.func 47) [(.tmp 57)], (some 58), (some (48, true))⟩,
  ⟨.pick (.tmp 48) (.tmp 58) (.const (.bool false)), (some 59), none⟩,
  ⟨.move (.tmp 59), (some 15), none⟩]
def o29_10 : List AOper := [⟨.bin .add (.tmp 43) (.const (.int .i64 1)), (some 60), none⟩,
  ⟨.move (.tmp 60), (some 43), none⟩]
def b29_6 : ACode := (.seq (.ops o29_7) (.seq (.cond (.tmp 44) .skip (.exit 0)) (.seq (.block 1 (.seq (.ops o29_8) (.ops o29_9))) (.ops o29_10))))
def o29_11 : List AOper := [⟨.move (.tmp 15), (some 61), none⟩,
  ⟨.un .not (.tmp 61), (some 62), none⟩]
def o29_12 : List AOper := [⟨.move (.const (.slice none 0 0)), (some 12), none⟩,
  ⟨.move (.const (.int .i64 6)), (some 13), none⟩]
def o29_13 : List AOper := [⟨.load (some 5) (.tmp 6), (some 64), none⟩,
  ⟨.call (.func 48) [(.tmp 64)], (some 65), none⟩,
  ⟨.move (.tmp 65), (some 63), none⟩,
  ⟨.extract (.tmp 63) 0, (some 66), none⟩,
  ⟨.extract (.tmp 63) 1, (some 67), none⟩,
  ⟨.move (.tmp 66), (some 18), none⟩,
  ⟨.move (.tmp 67), (some 19), none⟩]
def o29_14 : List AOper := [⟨.load (some 5) (.tmp 6), (some 68), none⟩,
  ⟨.move (.tmp 1), (some 69), none⟩,
  ⟨.move (.tmp 3), (some 70), none⟩,
  ⟨.move (.tmp 19), (some 71), none⟩,
  ⟨.call (.func 49) [(.tmp 68), (.tmp 69), (.tmp 70), (.tmp 71)], (some 72), none⟩,
  ⟨.move (.tmp 72), (some 20), none⟩]
def o29_15 : List AOper := [⟨.move (.tmp 2), (some 73), none⟩,
  ⟨.bu .len [(.tmp 73)], (some 74), none⟩,
  ⟨.move (.const (.int .i64 0)), (some 75), none⟩]
def o29_17 : List AOper := [⟨.bin .lss (.tmp 75) (.tmp 74), (some 76), none⟩]
def o29_18 : List AOper := [⟨.addrSl 5 (.tmp 73) (.tmp 75), (some 77), none⟩,
  ⟨.load (some 5) (.tmp 77), (some 78), none⟩,
  ⟨.alloc 46 [(.float .f64 0), (.float .f64 0), (.float .f64 0), (.float .f64 0), (.float .f64 0)], (some 22), none⟩,
  ⟨.store 5 (.tmp 22) (.tmp 78), none, none⟩]
def o29_19 : List AOper := [⟨.move (.tmp 20), (some 79), none⟩,
  ⟨.load (some 5) (.tmp 22), (some 80), none⟩,
  ⟨.call (.tmp 79) [(.tmp 80)], (some 81), none⟩]
def o29_20 : List AOper := [⟨.bin .add (.tmp 75) (.const (.int .i64 1)), (some 82), none⟩,
  ⟨.move (.tmp 82), (some 75), none⟩]
def b29_16 : ACode := (.seq (.ops o29_17) (.seq (.cond (.tmp 76) .skip (.exit 2)) (.seq (.block 3 (.seq (.ops o29_18) (.ops o29_19))) (.ops o29_20))))
def o29_21 : List AOper := [⟨.move (.tmp 4), (some 83), none⟩,
  ⟨.bin .gtr (.tmp 83) (.const (.float .f64 0)), (some 84), none⟩]
def o29_22 : List AOper := [⟨.move (.tmp 5), (some 85), none⟩,
  ⟨.call (.func 50) [(.tmp 85)], (some 86), none⟩,
  ⟨.move (.tmp 86), (some 23), none⟩]
def o29_23 : List AOper := [⟨.move (.tmp 19), (some 87), none⟩,
  ⟨.bu .len [(.tmp 87)], (some 88), none⟩,
  ⟨.move (.const (.int .i64 0)), (some 89), none⟩]
def o29_25 : List AOper := [⟨.bin .lss (.tmp 89) (.tmp 88), (some 90), none⟩]
def o29_26 : List AOper := [⟨.move (.tmp 89), (some 91), none⟩,
  ⟨.move (.tmp 91), (some 24), none⟩]
def d29_27 : List DOper := [⟨⟨.move (.tmp 19), (some 92), none⟩, 0⟩,
  ⟨⟨.move (.tmp 24), (some 93), none⟩, 0⟩,
  ⟨⟨.addrSl 1 (.tmp 92) (.tmp 93), (some 94), none⟩, 3⟩,
  ⟨⟨.load none (.tmp 94), (some 95), none⟩, 7⟩,
  ⟨⟨.move (.tmp 23), (some 96), none⟩, 0⟩,
  ⟨⟨.move (.tmp 4), (some 97), none⟩, 0⟩,
  ⟨⟨.call (.func 51) [(.tmp 96), (.tmp 97)], (some 98), none⟩, 48⟩,
  ⟨⟨.bin .add (.tmp 95) (.tmp 98), (some 99), none⟩, 127⟩,
  ⟨⟨.addrSl 1 (.tmp 92) (.tmp 93), (some 100), none⟩, 255⟩,
  ⟨⟨.store 1 (.tmp 100) (.tmp 99), none, none⟩, 511⟩]
def o29_28 : List AOper := [⟨.bin .add (.tmp 89) (.const (.int .i64 1)), (some 101), none⟩,
  ⟨.move (.tmp 101), (some 89), none⟩]
def b29_24 : ACode := (.seq (.ops o29_25) (.seq (.cond (.tmp 90) .skip (.exit 4)) (.seq (.block 5 (.seq (.ops o29_26) (.draw d29_27))) (.ops o29_28))))
def o29_29 : List AOper := [⟨.move (.tmp 18), (some 102), none⟩,
  ⟨.move (.tmp 102), (some 12), none⟩,
  ⟨.move (.const (.int .i64 0)), (some 13), none⟩]
def ir29 : AFn := ⟨103, [.tmp 12, .tmp 13], (.seq (.ops o29_0) (.seq (.seq (.ops o29_1) (.seq (.ops o29_2) (.cond (.tmp 31) (.seq (.ops o29_3) .ret) .skip))) (.seq (.ops o29_4) (.seq (.seq (.ops o29_5) (.block 0 (.loop b29_6))) (.seq (.seq (.ops o29_11) (.cond (.tmp 62) (.seq (.ops o29_12) .ret) .skip)) (.seq (.ops o29_13) (.seq (.ops o29_14) (.seq (.seq (.ops o29_15) (.block 2 (.loop b29_16))) (.seq (.seq (.ops o29_21) (.cond (.tmp 84) (.seq (.ops o29_22) (.seq (.ops o29_23) (.block 4 (.loop b29_24)))) .skip)) (.seq (.ops o29_29) .ret))))))))))⟩
theorem ir29_eq : fnsOf Tryz.prog 29 = some ir29 := by kernel_rfl

/-! F30 lookout/dwell.steps -/
def o30_0 : List AOper := [⟨.box 27 (.tmp 0), (some 1), none⟩,
  ⟨.move (.const (.slice none 0 0)), (some 2), none⟩]
def o30_1 : List AOper := [⟨.mkFunc (.func 52) [] [(.tmp 1)], (some 3), none⟩,
  ⟨.mkFunc (.func 54) [] [(.tmp 1)], (some 4), none⟩,
  ⟨.mkFunc (.func 56) [] [(.tmp 1)], (some 5), none⟩,
  ⟨.buildSlice 72 1 [.nilFunc] 3 [(0, (.tmp 3)), (1, (.tmp 4)), (2, (.tmp 5))], (some 6), none⟩,
  ⟨.move (.tmp 6), (some 2), none⟩]
def ir30 : AFn := ⟨7, [.tmp 2], (.seq (.ops o30_0) (.seq (.ops o30_1) .ret))⟩
theorem ir30_eq : fnsOf Tryz.prog 30 = some ir30 := by kernel_rfl

/-! F31 lookout/bank.Powers -/
def o31_0 : List AOper := [⟨.move (.const (.slice none 0 0)), (some 2), none⟩]
def o31_1 : List AOper := [⟨.move (.tmp 0), (some 8), none⟩,
  ⟨.bu .len [(.tmp 8)], (some 9), none⟩,
  ⟨.makeSlice 55 24 1 [(.slice none 0 0)] (.tmp 9) (.tmp 9), (some 10), none⟩,
  ⟨.move (.tmp 10), (some 3), none⟩]
def o31_2 : List AOper := [⟨.move (.tmp 0), (some 11), none⟩,
  ⟨.bu .len [(.tmp 11)], (some 12), none⟩,
  ⟨.move (.const (.int .i64 0)), (some 13), none⟩]
def o31_4 : List AOper := [⟨.bin .lss (.tmp 13) (.tmp 12), (some 14), none⟩]
def o31_5 : List AOper := [⟨.move (.tmp 13), (some 15), none⟩,
  ⟨.addrSl 1 (.tmp 11) (.tmp 13), (some 16), none⟩,
  ⟨.load none (.tmp 16), (some 17), none⟩,
  ⟨.move (.tmp 15), (some 4), none⟩,
  ⟨.move (.tmp 17), (some 5), none⟩]
def o31_6 : List AOper := [⟨.move (.tmp 3), (some 18), none⟩,
  ⟨.move (.tmp 4), (some 19), none⟩,
  ⟨.move (.tmp 5), (some 20), none⟩,
  ⟨.bu .len [(.tmp 20)], (some 21), none⟩,
  ⟨.makeSlice 22 8 1 [(.float .f64 0)] (.tmp 21) (.tmp 21), (some 22), none⟩,
  ⟨.addrSl 1 (.tmp 18) (.tmp 19), (some 23), none⟩,
  ⟨.store 1 (.tmp 23) (.tmp 22), none, none⟩]
def o31_7 : List AOper := [⟨.move (.tmp 5), (some 24), none⟩,
  ⟨.bu .len [(.tmp 24)], (some 25), none⟩,
  ⟨.move (.const (.int .i64 0)), (some 26), none⟩]
def o31_9 : List AOper := [⟨.bin .lss (.tmp 26) (.tmp 25), (some 27), none⟩]
def o31_10 : List AOper := [⟨.move (.tmp 26), (some 28), none⟩,
  ⟨.addrSl 1 (.tmp 24) (.tmp 26), (some 29), none⟩,
  ⟨.load none (.tmp 29), (some 30), none⟩,
  ⟨.move (.tmp 28), (some 6), none⟩,
  ⟨.move (.tmp 30), (some 7), none⟩]
def d31_11 : List DOper := [⟨⟨.move (.tmp 3), (some 31), none⟩, 0⟩,
  ⟨⟨.move (.tmp 4), (some 32), none⟩, 0⟩,
  ⟨⟨.addrSl 1 (.tmp 31) (.tmp 32), (some 33), none⟩, 3⟩,
  ⟨⟨.load none (.tmp 33), (some 34), none⟩, 7⟩,
  ⟨⟨.move (.tmp 6), (some 35), none⟩, 0⟩,
  ⟨⟨.move (.tmp 7), (some 36), none⟩, 0⟩,
  ⟨⟨.call (.func 59) [(.tmp 36)], (some 37), none⟩, 32⟩,
  ⟨⟨.addrSl 1 (.tmp 34) (.tmp 35), (some 38), none⟩, 127⟩,
  ⟨⟨.store 1 (.tmp 38) (.tmp 37), none, none⟩, 255⟩]
def o31_12 : List AOper := [⟨.bin .add (.tmp 26) (.const (.int .i64 1)), (some 39), none⟩,
  ⟨.move (.tmp 39), (some 26), none⟩]
def b31_8 : ACode := (.seq (.ops o31_9) (.seq (.cond (.tmp 27) .skip (.exit 2)) (.seq (.block 3 (.seq (.ops o31_10) (.draw d31_11))) (.ops o31_12))))
def o31_13 : List AOper := [⟨.bin .add (.tmp 13) (.const (.int .i64 1)), (some 40), none⟩,
  ⟨.move (.tmp 40), (some 13), none⟩]
def b31_3 : ACode := (.seq (.ops o31_4) (.seq (.cond (.tmp 14) .skip (.exit 0)) (.seq (.block 1 (.seq (.ops o31_5) (.seq (.ops o31_6) (.seq (.ops o31_7) (.block 2 (.loop b31_8)))))) (.ops o31_13))))
def o31_14 : List AOper := [⟨.move (.tmp 3), (some 41), none⟩,
  ⟨.move (.tmp 41), (some 2), none⟩]
def ir31 : AFn := ⟨42, [.tmp 2], (.seq (.ops o31_0) (.seq (.ops o31_1) (.seq (.seq (.ops o31_2) (.block 0 (.loop b31_3))) (.seq (.ops o31_14) .ret))))⟩
theorem ir31_eq : fnsOf Tryz.prog 31 = some ir31 := by kernel_rfl

/-! F32 lookout/cfar.Map -/
def o32_0 : List AOper := [⟨.move (.const (.slice none 0 0)), (some 12), none⟩,
  ⟨.move (.const (.int .i64 0)), (some 13), none⟩]
def o32_1 : List AOper := [⟨.move (.tmp 0), (some 28), none⟩,
  ⟨.bu .len [(.tmp 28)], (some 29), none⟩,
  ⟨.bin .gtr (.tmp 29) (.const (.int .i64 256)), (some 30), none⟩]
def o32_2 : List AOper := [⟨.move (.const (.slice none 0 0)), (some 12), none⟩,
  ⟨.move (.const (.int .i64 3)), (some 13), none⟩]
def o32_3 : List AOper := [⟨.move (.const (.int .i64 0)), (some 14), none⟩]
def o32_4 : List AOper := [⟨.move (.tmp 0), (some 31), none⟩,
  ⟨.bu .len [(.tmp 31)], (some 32), none⟩,
  ⟨.move (.const (.int .i64 0)), (some 33), none⟩]
def o32_6 : List AOper := [⟨.bin .lss (.tmp 33) (.tmp 32), (some 34), none⟩]
def o32_7 : List AOper := [⟨.addrSl 1 (.tmp 31) (.tmp 33), (some 35), none⟩,
  ⟨.load none (.tmp 35), (some 36), none⟩,
  ⟨.move (.tmp 36), (some 16), none⟩]
def o32_8 : List AOper := [⟨.move (.tmp 14), (some 37), none⟩,
  ⟨.move (.tmp 16), (some 38), none⟩,
  ⟨.bu .len [(.tmp 38)], (some 39), none⟩,
  ⟨.bin .add (.tmp 37) (.tmp 39), (some 40), none⟩,
  ⟨.move (.tmp 40), (some 14), none⟩]
def o32_9 : List AOper := [⟨.move (.tmp 16), (some 41), none⟩,
  ⟨.bu .len [(.tmp 41)], (some 42), none⟩,
  ⟨.bin .gtr (.tmp 42) (.const (.int .i64 16384)), (some 43), none⟩,
  ⟨.move (.tmp 43), (some 44), none⟩,
  ⟨.move (.tmp 14), (some 45), (some (44, false))⟩,
  ⟨.bin .gtr (.tmp 45) (.const (.int .i64 262144)), (some 46), (some (44, false))⟩,
  ⟨.pick (.tmp 44) (.const (.bool true)) (.tmp 46), (some 47), none⟩]
def o32_10 : List AOper := [⟨.move (.const (.slice none 0 0)), (some 12), none⟩,
  ⟨.move (.const (.int .i64 3)), (some 13), none⟩]
def o32_11 : List AOper := [⟨.bin .add (.tmp 33) (.const (.int .i64 1)), (some 48), none⟩,
  ⟨.move (.tmp 48), (some 33), none⟩]
def b32_5 : ACode := (.seq (.ops o32_6) (.seq (.cond (.tmp 34) .skip (.exit 0)) (.seq (.block 1 (.seq (.ops o32_7) (.seq (.ops o32_8) (.seq (.ops o32_9) (.cond (.tmp 47) (.seq (.ops o32_10) .ret) .skip))))) (.ops o32_11))))
def o32_12 : List AOper := [⟨.move (.tmp 0), (some 49), none⟩,
  ⟨.bu .len [(.tmp 49)], (some 50), none⟩,
  ⟨.move (.const (.int .i64 0)), (some 51), none⟩]
def o32_14 : List AOper := [⟨.bin .lss (.tmp 51) (.tmp 50), (some 52), none⟩]
def o32_15 : List AOper := [⟨.addrSl 1 (.tmp 49) (.tmp 51), (some 53), none⟩,
  ⟨.load none (.tmp 53), (some 54), none⟩,
  ⟨.move (.tmp 54), (some 18), none⟩]
def o32_16 : List AOper := [⟨.move (.tmp 18), (some 55), none⟩,
  ⟨.bu .len [(.tmp 55)], (some 56), none⟩,
  ⟨.move (.tmp 0), (some 57), none⟩,
  ⟨.addrSl 1 (.tmp 57) (.const (.int .i64 0)), (some 58), none⟩,
  ⟨.load none (.tmp 58), (some 59), none⟩,
  ⟨.bu .len [(.tmp 59)], (some 60), none⟩,
  ⟨.bin .neq (.tmp 56) (.tmp 60), (some 61), none⟩]
def o32_17 : List AOper := [⟨.move (.const (.slice none 0 0)), (some 12), none⟩,
  ⟨.move (.const (.int .i64 5)), (some 13), none⟩]
def o32_18 : List AOper := [⟨.bin .add (.tmp 51) (.const (.int .i64 1)), (some 62), none⟩,
  ⟨.move (.tmp 62), (some 51), none⟩]
def b32_13 : ACode := (.seq (.ops o32_14) (.seq (.cond (.tmp 52) .skip (.exit 2)) (.seq (.block 3 (.seq (.ops o32_15) (.seq (.ops o32_16) (.cond (.tmp 61) (.seq (.ops o32_17) .ret) .skip)))) (.ops o32_18))))
def o32_19 : List AOper := [⟨.move (.tmp 1), (some 64), none⟩,
  ⟨.move (.tmp 2), (some 65), none⟩,
  ⟨.move (.tmp 3), (some 66), none⟩,
  ⟨.move (.tmp 4), (some 67), none⟩,
  ⟨.move (.tmp 5), (some 68), none⟩,
  ⟨.call (.func 60) [(.const (.slice none 0 0)), (.tmp 64), (.tmp 65), (.tmp 66), (.tmp 67), (.tmp 68)], (some 69), none⟩,
  ⟨.move (.tmp 69), (some 63), none⟩,
  ⟨.extract (.tmp 63) 0, (some 70), none⟩,
  ⟨.extract (.tmp 63) 1, (some 71), none⟩,
  ⟨.move (.tmp 70), (some 19), none⟩,
  ⟨.move (.tmp 71), (some 20), none⟩]
def o32_20 : List AOper := [⟨.move (.tmp 20), (some 72), none⟩,
  ⟨.bin .neq (.tmp 72) (.const (.int .i64 0)), (some 73), none⟩]
def o32_21 : List AOper := [⟨.move (.tmp 20), (some 74), none⟩,
  ⟨.move (.const (.slice none 0 0)), (some 12), none⟩,
  ⟨.move (.tmp 74), (some 13), none⟩]
def o32_22 : List AOper := [⟨.move (.const (.slice none 0 0)), (some 21), none⟩]
def o32_23 : List AOper := [⟨.move (.tmp 0), (some 75), none⟩,
  ⟨.bu .len [(.tmp 75)], (some 76), none⟩,
  ⟨.move (.const (.int .i64 0)), (some 77), none⟩]
def o32_25 : List AOper := [⟨.bin .lss (.tmp 77) (.tmp 76), (some 78), none⟩]
def o32_26 : List AOper := [⟨.move (.tmp 77), (some 79), none⟩,
  ⟨.addrSl 1 (.tmp 75) (.tmp 77), (some 80), none⟩,
  ⟨.load none (.tmp 80), (some 81), none⟩,
  ⟨.move (.tmp 79), (some 22), none⟩,
  ⟨.move (.tmp 81), (some 23), none⟩]
def o32_27 : List AOper := [⟨.move (.tmp 23), (some 83), none⟩,
  ⟨.move (.tmp 1), (some 84), none⟩,
  ⟨.move (.tmp 2), (some 85), none⟩,
  ⟨.move (.tmp 3), (some 86), none⟩,
  ⟨.move (.tmp 4), (some 87), none⟩,
  ⟨.move (.tmp 5), (some 88), none⟩,
  ⟨.call (.func 60) [(.tmp 83), (.tmp 84), (.tmp 85), (.tmp 86), (.tmp 87), (.tmp 88)], (some 89), none⟩,
  ⟨.move (.tmp 89), (some 82), none⟩,
  ⟨.extract (.tmp 82) 0, (some 90), none⟩,
  ⟨.extract (.tmp 82) 1, (some 91), none⟩,
  ⟨.move (.tmp 90), (some 24), none⟩,
  ⟨.move (.tmp 91), (some 25), none⟩]
def o32_28 : List AOper := [⟨.move (.tmp 24), (some 92), none⟩,
  ⟨.bu .len [(.tmp 92)], (some 93), none⟩,
  ⟨.move (.const (.int .i64 0)), (some 94), none⟩]
def o32_30 : List AOper := [⟨.bin .lss (.tmp 94) (.tmp 93), (some 95), none⟩]
def o32_31 : List AOper := [⟨.move (.tmp 94), (some 96), none⟩,
  ⟨.addrSl 1 (.tmp 92) (.tmp 94), (some 97), none⟩,
  ⟨.load none (.tmp 97), (some 98), none⟩,
  ⟨.move (.tmp 96), (some 26), none⟩,
  ⟨.move (.tmp 98), (some 27), none⟩]
def o32_32 : List AOper := [⟨.move (.tmp 27), (some 99), none⟩,
  ⟨.un .not (.tmp 99), (some 100), none⟩]
def o32_33 : List AOper := [⟨.move (.tmp 21), (some 101), none⟩,
  ⟨.bu .len [(.tmp 101)], (some 102), none⟩,
  ⟨.bin .eql (.tmp 102) (.const (.int .i64 4096)), (some 103), none⟩]
def o32_34 : List AOper := [⟨.move (.const (.slice none 0 0)), (some 12), none⟩,
  ⟨.move (.const (.int .i64 3)), (some 13), none⟩]
def o32_35 : List AOper := [⟨.move (.tmp 21), (some 104), none⟩,
  ⟨.move (.tmp 22), (some 105), none⟩,
  ⟨.move (.tmp 26), (some 106), none⟩,
  ⟨.move (.tmp 23), (some 107), none⟩,
  ⟨.move (.tmp 26), (some 108), none⟩,
  ⟨.addrSl 1 (.tmp 107) (.tmp 108), (some 109), none⟩,
  ⟨.load none (.tmp 109), (some 110), none⟩,
  ⟨.build [(.int .i64 0), (.int .i64 0), (.float .f64 0)] [(0, 1, (.tmp 105)), (1, 1, (.tmp 106)), (2, 1, (.tmp 110))], (some 111), none⟩,
  ⟨.buildSlice 109 3 [(.int .i64 0), (.int .i64 0), (.float .f64 0)] 1 [(0, (.tmp 111))], (some 112), none⟩,
  ⟨.append 109 24 3 [(.int .i64 0), (.int .i64 0), (.float .f64 0)] (.tmp 104) (.tmp 112), (some 113), none⟩,
  ⟨.move (.tmp 113), (some 21), none⟩]
def o32_36 : List AOper := [⟨.bin .add (.tmp 94) (.const (.int .i64 1)), (some 114), none⟩,
  ⟨.move (.tmp 114), (some 94), none⟩]
def b32_29 : ACode := (.seq (.ops o32_30) (.seq (.cond (.tmp 95) .skip (.exit 6)) (.seq (.block 7 (.seq (.ops o32_31) (.seq (.seq (.ops o32_32) (.cond (.tmp 100) (.exit 7) .skip)) (.seq (.seq (.ops o32_33) (.cond (.tmp 103) (.seq (.ops o32_34) .ret) .skip)) (.ops o32_35))))) (.ops o32_36))))
def o32_37 : List AOper := [⟨.bin .add (.tmp 77) (.const (.int .i64 1)), (some 115), none⟩,
  ⟨.move (.tmp 115), (some 77), none⟩]
def b32_24 : ACode := (.seq (.ops o32_25) (.seq (.cond (.tmp 78) .skip (.exit 4)) (.seq (.block 5 (.seq (.ops o32_26) (.seq (.ops o32_27) (.seq (.ops o32_28) (.block 6 (.loop b32_29)))))) (.ops o32_37))))
def o32_38 : List AOper := [⟨.move (.tmp 21), (some 116), none⟩,
  ⟨.move (.tmp 116), (some 12), none⟩,
  ⟨.move (.const (.int .i64 0)), (some 13), none⟩]
def ir32 : AFn := ⟨117, [.tmp 12, .tmp 13], (.seq (.ops o32_0) (.seq (.seq (.ops o32_1) (.cond (.tmp 30) (.seq (.ops o32_2) .ret) .skip)) (.seq (.ops o32_3) (.seq (.seq (.ops o32_4) (.block 0 (.loop b32_5))) (.seq (.seq (.ops o32_12) (.block 2 (.loop b32_13))) (.seq (.seq (.ops o32_19) (.seq (.ops o32_20) (.cond (.tmp 73) (.seq (.ops o32_21) .ret) .skip))) (.seq (.ops o32_22) (.seq (.seq (.ops o32_23) (.block 4 (.loop b32_24))) (.seq (.ops o32_38) .ret)))))))))⟩
theorem ir32_eq : fnsOf Tryz.prog 32 = some ir32 := by kernel_rfl

/-! F33 lookout/peaks.Groups -/
def o33_0 : List AOper := [⟨.move (.const (.slice none 0 0)), (some 4), none⟩]
def o33_1 : List AOper := [⟨.makeMap, (some 14), none⟩,
  ⟨.alloc 110 [(.map none)], (some 5), none⟩,
  ⟨.store 1 (.tmp 5) (.tmp 14), none, none⟩]
def o33_2 : List AOper := [⟨.alloc 74 [(.slice none 0 0)], (some 6), none⟩]
def o33_3 : List AOper := [⟨.move (.tmp 0), (some 15), none⟩,
  ⟨.bu .len [(.tmp 15)], (some 16), none⟩,
  ⟨.move (.const (.int .i64 0)), (some 17), none⟩]
def o33_5 : List AOper := [⟨.bin .lss (.tmp 17) (.tmp 16), (some 18), none⟩]
def o33_6 : List AOper := [⟨.addrSl 3 (.tmp 15) (.tmp 17), (some 19), none⟩,
  ⟨.load (some 3) (.tmp 19), (some 20), none⟩,
  ⟨.alloc 109 [(.int .i64 0), (.int .i64 0), (.float .f64 0)], (some 8), none⟩,
  ⟨.store 3 (.tmp 8) (.tmp 20), none, none⟩]
def o33_7 : List AOper := [⟨.fieldAddr 0 (.tmp 8), (some 21), none⟩,
  ⟨.load none (.tmp 21), (some 22), none⟩,
  ⟨.fieldAddr 1 (.tmp 8), (some 23), none⟩,
  ⟨.load none (.tmp 23), (some 24), none⟩,
  ⟨.build [(.int .i64 0), (.int .i64 0)] [(0, 1, (.tmp 22)), (1, 1, (.tmp 24))], (some 25), none⟩,
  ⟨.alloc 112 [(.int .i64 0), (.int .i64 0)], (some 9), none⟩,
  ⟨.store 2 (.tmp 9) (.tmp 25), none, none⟩]
def o33_8 : List AOper := [⟨.fieldAddr 0 (.tmp 8), (some 26), none⟩,
  ⟨.load none (.tmp 26), (some 27), none⟩,
  ⟨.bin .lss (.tmp 27) (.const (.int .i64 0)), (some 28), none⟩,
  ⟨.move (.tmp 28), (some 29), none⟩,
  ⟨.fieldAddr 0 (.tmp 8), (some 30), (some (29, false))⟩,
  ⟨.load none (.tmp 30), (some 31), (some (29, false))⟩,
  ⟨.move (.tmp 1), (some 32), (some (29, false))⟩,
  ⟨.bin .geq (.tmp 31) (.tmp 32), (some 33), (some (29, false))⟩,
  ⟨.pick (.tmp 29) (.const (.bool true)) (.tmp 33), (some 34), none⟩,
  ⟨.move (.tmp 34), (some 35), none⟩,
  ⟨.fieldAddr 1 (.tmp 8), (some 36), (some (35, false))⟩,
  ⟨.load none (.tmp 36), (some 37), (some (35, false))⟩,
  ⟨.bin .lss (.tmp 37) (.const (.int .i64 0)), (some 38), (some (35, false))⟩,
  ⟨.pick (.tmp 35) (.const (.bool true)) (.tmp 38), (some 39), none⟩,
  ⟨.move (.tmp 39), (some 40), none⟩,
  ⟨.load none (.tmp 5), (some 41), (some (40, false))⟩,
  ⟨.load (some 2) (.tmp 9), (some 42), (some (40, false))⟩,
  ⟨.lookup (.struct [(0, none, .int), (1, none, .int)]) (.int .i64 0) false (.tmp 41) (.tmp 42), (some 43), (some (40, false))⟩,
  ⟨.bin .gtr (.tmp 43) (.const (.int .i64 0)), (some 44), (some (40, false))⟩,
  ⟨.pick (.tmp 40) (.const (.bool true)) (.tmp 44), (some 45), none⟩]
def o33_9 : List AOper := [⟨.load none (.tmp 6), (some 46), none⟩,
  ⟨.load (some 3) (.tmp 8), (some 47), none⟩,
  ⟨.buildSlice 109 3 [(.int .i64 0), (.int .i64 0), (.float .f64 0)] 1 [(0, (.tmp 47))], (some 48), none⟩,
  ⟨.append 109 24 3 [(.int .i64 0), (.int .i64 0), (.float .f64 0)] (.tmp 46) (.tmp 48), (some 49), none⟩,
  ⟨.store 1 (.tmp 6) (.tmp 49), none, none⟩]
def o33_10 : List AOper := [⟨.load none (.tmp 5), (some 50), none⟩,
  ⟨.load (some 2) (.tmp 9), (some 51), none⟩,
  ⟨.load none (.tmp 6), (some 52), none⟩,
  ⟨.bu .len [(.tmp 52)], (some 53), none⟩,
  ⟨.mapPut (.struct [(0, none, .int), (1, none, .int)]) (.tmp 50) (.tmp 51) (.tmp 53), none, none⟩]
def o33_11 : List AOper := [⟨.bin .add (.tmp 17) (.const (.int .i64 1)), (some 54), none⟩,
  ⟨.move (.tmp 54), (some 17), none⟩]
def b33_4 : ACode := (.seq (.ops o33_5) (.seq (.cond (.tmp 18) .skip (.exit 0)) (.seq (.block 1 (.seq (.ops o33_6) (.seq (.ops o33_7) (.seq (.seq (.ops o33_8) (.cond (.tmp 45) (.exit 1) .skip)) (.seq (.ops o33_9) (.ops o33_10)))))) (.ops o33_11))))
def o33_12 : List AOper := [⟨.move (.const (.slice none 0 0)), (some 10), none⟩]
def o33_13 : List AOper := [⟨.load none (.tmp 6), (some 55), none⟩,
  ⟨.bu .len [(.tmp 55)], (some 56), none⟩,
  ⟨.move (.const (.int .i64 0)), (some 57), none⟩]
def o33_15 : List AOper := [⟨.bin .lss (.tmp 57) (.tmp 56), (some 58), none⟩]
def o33_16 : List AOper := [⟨.move (.tmp 57), (some 59), none⟩,
  ⟨.move (.tmp 59), (some 11), none⟩]
def d33_17 : List DOper := [⟨⟨.load none (.tmp 5), (some 60), none⟩, 0⟩,
  ⟨⟨.load none (.tmp 6), (some 61), none⟩, 0⟩,
  ⟨⟨.move (.tmp 11), (some 62), none⟩, 0⟩,
  ⟨⟨.addrSl 3 (.tmp 61) (.tmp 62), (some 63), none⟩, 6⟩,
  ⟨⟨.fieldAddr 0 (.tmp 63), (some 64), none⟩, 14⟩,
  ⟨⟨.load none (.tmp 64), (some 65), none⟩, 30⟩,
  ⟨⟨.load none (.tmp 6), (some 66), none⟩, 0⟩,
  ⟨⟨.move (.tmp 11), (some 67), none⟩, 0⟩,
  ⟨⟨.addrSl 3 (.tmp 66) (.tmp 67), (some 68), none⟩, 192⟩,
  ⟨⟨.fieldAddr 1 (.tmp 68), (some 69), none⟩, 448⟩,
  ⟨⟨.load none (.tmp 69), (some 70), none⟩, 960⟩,
  ⟨⟨.build [(.int .i64 0), (.int .i64 0)] [(0, 1, (.tmp 65)), (1, 1, (.tmp 70))], (some 71), none⟩, 2046⟩,
  ⟨⟨.lookup (.struct [(0, none, .int), (1, none, .int)]) (.int .i64 0) false (.tmp 60) (.tmp 71), (some 72), none⟩, 4095⟩,
  ⟨⟨.bin .eql (.tmp 72) (.const (.int .i64 0)), (some 73), none⟩, 8191⟩]
def o33_18 : List AOper := [⟨.load none (.tmp 6), (some 74), none⟩,
  ⟨.move (.tmp 11), (some 75), none⟩,
  ⟨.addrSl 3 (.tmp 74) (.tmp 75), (some 76), none⟩,
  ⟨.load (some 3) (.tmp 76), (some 77), none⟩,
  ⟨.buildSlice 109 3 [(.int .i64 0), (.int .i64 0), (.float .f64 0)] 1 [(0, (.tmp 77))], (some 78), none⟩,
  ⟨.alloc 74 [(.slice none 0 0)], (some 12), none⟩,
  ⟨.store 1 (.tmp 12) (.tmp 78), none, none⟩]
def d33_19 : List DOper := [⟨⟨.load none (.tmp 5), (some 79), none⟩, 0⟩,
  ⟨⟨.load none (.tmp 6), (some 80), none⟩, 0⟩,
  ⟨⟨.move (.tmp 11), (some 81), none⟩, 0⟩,
  ⟨⟨.addrSl 3 (.tmp 80) (.tmp 81), (some 82), none⟩, 6⟩,
  ⟨⟨.fieldAddr 0 (.tmp 82), (some 83), none⟩, 14⟩,
  ⟨⟨.load none (.tmp 83), (some 84), none⟩, 30⟩,
  ⟨⟨.load none (.tmp 6), (some 85), none⟩, 0⟩,
  ⟨⟨.move (.tmp 11), (some 86), none⟩, 0⟩,
  ⟨⟨.addrSl 3 (.tmp 85) (.tmp 86), (some 87), none⟩, 192⟩,
  ⟨⟨.fieldAddr 1 (.tmp 87), (some 88), none⟩, 448⟩,
  ⟨⟨.load none (.tmp 88), (some 89), none⟩, 960⟩,
  ⟨⟨.build [(.int .i64 0), (.int .i64 0)] [(0, 1, (.tmp 84)), (1, 1, (.tmp 89))], (some 90), none⟩, 2046⟩,
  ⟨⟨.mapDel (.struct [(0, none, .int), (1, none, .int)]) (.tmp 79) (.tmp 90), none, none⟩, 4095⟩]
def o33_20 : List AOper := [⟨.move (.const (.int .i64 0)), (some 13), none⟩]
def o33_22 : List AOper := [⟨.move (.tmp 13), (some 91), none⟩,
  ⟨.load none (.tmp 12), (some 92), none⟩,
  ⟨.bu .len [(.tmp 92)], (some 93), none⟩,
  ⟨.bin .lss (.tmp 91) (.tmp 93), (some 94), none⟩]
def d33_23 : List DOper := [⟨⟨.load none (.tmp 12), (some 97), none⟩, 0⟩,
  ⟨⟨.move (.tmp 13), (some 98), none⟩, 0⟩,
  ⟨⟨.addrSl 3 (.tmp 97) (.tmp 98), (some 99), none⟩, 3⟩,
  ⟨⟨.fieldAddr 0 (.tmp 99), (some 100), none⟩, 7⟩,
  ⟨⟨.load none (.tmp 100), (some 101), none⟩, 15⟩,
  ⟨⟨.load none (.tmp 12), (some 102), none⟩, 0⟩,
  ⟨⟨.move (.tmp 13), (some 103), none⟩, 0⟩,
  ⟨⟨.addrSl 3 (.tmp 102) (.tmp 103), (some 104), none⟩, 96⟩,
  ⟨⟨.fieldAddr 1 (.tmp 104), (some 105), none⟩, 224⟩,
  ⟨⟨.load none (.tmp 105), (some 106), none⟩, 480⟩,
  ⟨⟨.build [(.int .i64 0), (.int .i64 0)] [(0, 1, (.tmp 101)), (1, 1, (.tmp 106))], (some 107), none⟩, 1023⟩,
  ⟨⟨.move (.tmp 1), (some 108), none⟩, 0⟩,
  ⟨⟨.mkFunc (.func 62) [] [(.tmp 5), (.tmp 12), (.tmp 6)], (some 109), none⟩, 0⟩,
  ⟨⟨.call (.func 61) [(.tmp 107), (.tmp 108), (.tmp 109)], (some 110), none⟩, 8191⟩]
def o33_24 : List AOper := [⟨.move (.tmp 13), (some 95), none⟩,
  ⟨.bin .add (.tmp 95) (.const (.int .i64 1)), (some 96), none⟩,
  ⟨.move (.tmp 96), (some 13), none⟩]
def b33_21 : ACode := (.seq (.seq (.ops o33_22) (.cond (.tmp 94) .skip (.exit 4))) (.seq (.block 5 (.draw d33_23)) (.ops o33_24)))
def o33_25 : List AOper := [⟨.load none (.tmp 12), (some 111), none⟩,
  ⟨.call (.func 63) [(.tmp 111), (.func 64)], (some 112), none⟩]
def o33_26 : List AOper := [⟨.move (.tmp 10), (some 113), none⟩,
  ⟨.load none (.tmp 12), (some 114), none⟩,
  ⟨.buildSlice 74 1 [(.slice none 0 0)] 1 [(0, (.tmp 114))], (some 115), none⟩,
  ⟨.append 74 24 1 [(.slice none 0 0)] (.tmp 113) (.tmp 115), (some 116), none⟩,
  ⟨.move (.tmp 116), (some 10), none⟩]
def o33_27 : List AOper := [⟨.bin .add (.tmp 57) (.const (.int .i64 1)), (some 117), none⟩,
  ⟨.move (.tmp 117), (some 57), none⟩]
def b33_14 : ACode := (.seq (.ops o33_15) (.seq (.cond (.tmp 58) .skip (.exit 2)) (.seq (.block 3 (.seq (.ops o33_16) (.seq (.seq (.draw d33_17) (.cond (.tmp 73) (.exit 3) .skip)) (.seq (.ops o33_18) (.seq (.draw d33_19) (.seq (.seq (.ops o33_20) (.block 4 (.loop b33_21))) (.seq (.ops o33_25) (.ops o33_26)))))))) (.ops o33_27))))
def o33_28 : List AOper := [⟨.move (.tmp 10), (some 118), none⟩,
  ⟨.call (.func 65) [(.tmp 118), (.func 66)], (some 119), none⟩]
def o33_29 : List AOper := [⟨.move (.tmp 10), (some 120), none⟩,
  ⟨.move (.tmp 120), (some 4), none⟩]
def ir33 : AFn := ⟨121, [.tmp 4], (.seq (.ops o33_0) (.seq (.ops o33_1) (.seq (.ops o33_2) (.seq (.seq (.ops o33_3) (.block 0 (.loop b33_4))) (.seq (.ops o33_12) (.seq (.seq (.ops o33_13) (.block 2 (.loop b33_14))) (.seq (.ops o33_28) (.seq (.ops o33_29) .ret))))))))⟩
theorem ir33_eq : fnsOf Tryz.prog 33 = some ir33 := by kernel_rfl

/-! F34 lookout/plots.One -/
def o34_0 : List AOper := [⟨.box 24 (.tmp 0), (some 3), none⟩,
  ⟨.box 82 (.tmp 1), (some 4), none⟩,
  ⟨.alloc 57 [(.float .f64 0), (.float .f64 0), (.float .f64 0), (.float .f64 0), (.float .f64 0)], (some 6), none⟩,
  ⟨.move (.const (.int .i64 0)), (some 7), none⟩]
def o34_1 : List AOper := [⟨.load (some 5) (.tmp 3), (some 11), none⟩,
  ⟨.call (.func 7) [(.tmp 11)], (some 12), none⟩,
  ⟨.move (.tmp 12), (some 8), none⟩]
def o34_2 : List AOper := [⟨.move (.tmp 8), (some 13), none⟩,
  ⟨.bin .neq (.tmp 13) (.const (.int .i64 0)), (some 14), none⟩]
def o34_3 : List AOper := [⟨.build [(.float .f64 0), (.float .f64 0), (.float .f64 0), (.float .f64 0), (.float .f64 0)] [], (some 15), none⟩,
  ⟨.move (.tmp 8), (some 16), none⟩,
  ⟨.store 5 (.tmp 6) (.tmp 15), none, none⟩,
  ⟨.move (.tmp 16), (some 7), none⟩]
def o34_4 : List AOper := [⟨.fieldAddr 0 (.tmp 4), (some 17), none⟩,
  ⟨.load none (.tmp 17), (some 18), none⟩,
  ⟨.fieldAddr 1 (.tmp 4), (some 19), none⟩,
  ⟨.load none (.tmp 19), (some 20), none⟩,
  ⟨.fieldAddr 2 (.tmp 4), (some 21), none⟩,
  ⟨.load none (.tmp 21), (some 22), none⟩,
  ⟨.move (.tmp 2), (some 23), none⟩,
  ⟨.buildSlice 22 1 [(.float .f64 0)] 4 [(0, (.tmp 18)), (1, (.tmp 20)), (2, (.tmp 22)), (3, (.tmp 23))], (some 24), none⟩,
  ⟨.call (.func 67) [(.tmp 24)], (some 25), none⟩,
  ⟨.un .not (.tmp 25), (some 26), none⟩]
def o34_5 : List AOper := [⟨.build [(.float .f64 0), (.float .f64 0), (.float .f64 0), (.float .f64 0), (.float .f64 0)] [], (some 27), none⟩,
  ⟨.store 5 (.tmp 6) (.tmp 27), none, none⟩,
  ⟨.move (.const (.int .i64 6)), (some 7), none⟩]
def o34_6 : List AOper := [⟨.load (some 5) (.tmp 3), (some 29), none⟩,
  ⟨.fieldAddr 0 (.tmp 4), (some 30), none⟩,
  ⟨.load none (.tmp 30), (some 31), none⟩,
  ⟨.call (.func 68) [(.tmp 29), (.tmp 31)], (some 32), none⟩,
  ⟨.move (.tmp 32), (some 28), none⟩,
  ⟨.extract (.tmp 28) 0, (some 33), none⟩,
  ⟨.extract (.tmp 28) 1, (some 34), none⟩,
  ⟨.move (.tmp 33), (some 9), none⟩,
  ⟨.move (.tmp 34), (some 10), none⟩]
def o34_7 : List AOper := [⟨.move (.tmp 10), (some 35), none⟩,
  ⟨.bin .neq (.tmp 35) (.const (.int .i64 0)), (some 36), none⟩]
def o34_8 : List AOper := [⟨.build [(.float .f64 0), (.float .f64 0), (.float .f64 0), (.float .f64 0), (.float .f64 0)] [], (some 37), none⟩,
  ⟨.move (.tmp 10), (some 38), none⟩,
  ⟨.store 5 (.tmp 6) (.tmp 37), none, none⟩,
  ⟨.move (.tmp 38), (some 7), none⟩]
def o34_9 : List AOper := [⟨.fieldAddr 1 (.tmp 4), (some 39), none⟩,
  ⟨.load none (.tmp 39), (some 40), none⟩,
  ⟨.bin .add (.tmp 40) (.const (.float .f64 4602678819172646912)), (some 41), none⟩,
  ⟨.fieldAddr 0 (.tmp 3), (some 42), none⟩,
  ⟨.load none (.tmp 42), (some 43), none⟩,
  ⟨.bin .mul (.tmp 41) (.tmp 43), (some 44), none⟩,
  ⟨.move (.tmp 9), (some 45), none⟩,
  ⟨.fieldAddr 2 (.tmp 4), (some 46), none⟩,
  ⟨.load none (.tmp 46), (some 47), none⟩,
  ⟨.move (.tmp 2), (some 48), none⟩,
  ⟨.build [(.float .f64 0), (.float .f64 0), (.float .f64 0), (.float .f64 0), (.float .f64 0)] [(0, 1, (.tmp 44)), (1, 1, (.tmp 45)), (2, 1, (.tmp 47)), (4, 1, (.tmp 48))], (some 49), none⟩,
  ⟨.store 5 (.tmp 6) (.tmp 49), none, none⟩,
  ⟨.move (.const (.int .i64 0)), (some 7), none⟩]
def ir34 : AFn := ⟨50, [.cell 6 (some 5), .tmp 7], (.seq (.ops o34_0) (.seq (.seq (.ops o34_1) (.seq (.ops o34_2) (.cond (.tmp 14) (.seq (.ops o34_3) .ret) .skip))) (.seq (.seq (.ops o34_4) (.cond (.tmp 26) (.seq (.ops o34_5) .ret) .skip)) (.seq (.ops o34_6) (.seq (.seq (.ops o34_7) (.cond (.tmp 36) (.seq (.ops o34_8) .ret) .skip)) (.seq (.ops o34_9) .ret))))))⟩
theorem ir34_eq : fnsOf Tryz.prog 34 = some ir34 := by kernel_rfl

/-! F35 lookout/peaks.Centre -/
def o35_0 : List AOper := [⟨.alloc 82 [(.float .f64 0), (.float .f64 0), (.float .f64 0), (.int .i64 0)], (some 4), none⟩]
def o35_1 : List AOper := [⟨.move (.tmp 0), (some 20), none⟩,
  ⟨.bu .len [(.tmp 20)], (some 21), none⟩,
  ⟨.bin .eql (.tmp 21) (.const (.int .i64 0)), (some 22), none⟩]
def o35_2 : List AOper := [⟨.build [(.float .f64 0), (.float .f64 0), (.float .f64 0), (.int .i64 0)] [], (some 23), none⟩,
  ⟨.store 4 (.tmp 4) (.tmp 23), none, none⟩]
def o35_3 : List AOper := [⟨.move (.tmp 1), (some 24), none⟩,
  ⟨.call (.func 69) [(.tmp 24), (.const (.int .i64 0)), (.const (.int .i64 1073741824))], (some 25), none⟩,
  ⟨.move (.tmp 25), (some 1), none⟩]
def o35_4 : List AOper := [⟨.move (.const (.int .i64 0)), (some 5), none⟩,
  ⟨.move (.const (.float .f64 0)), (some 6), none⟩]
def o35_5 : List AOper := [⟨.move (.tmp 0), (some 26), none⟩,
  ⟨.bu .len [(.tmp 26)], (some 27), none⟩,
  ⟨.move (.const (.int .i64 0)), (some 28), none⟩]
def o35_7 : List AOper := [⟨.bin .lss (.tmp 28) (.tmp 27), (some 29), none⟩]
def o35_8 : List AOper := [⟨.move (.tmp 28), (some 30), none⟩,
  ⟨.addrSl 3 (.tmp 26) (.tmp 28), (some 31), none⟩,
  ⟨.load (some 3) (.tmp 31), (some 32), none⟩,
  ⟨.alloc 109 [(.int .i64 0), (.int .i64 0), (.float .f64 0)], (some 8), none⟩,
  ⟨.move (.tmp 30), (some 7), none⟩,
  ⟨.store 3 (.tmp 8) (.tmp 32), none, none⟩]
def o35_9 : List AOper := [⟨.move (.tmp 0), (some 33), none⟩,
  ⟨.move (.tmp 5), (some 34), none⟩,
  ⟨.addrSl 3 (.tmp 33) (.tmp 34), (some 35), none⟩,
  ⟨.fieldAddr 2 (.tmp 35), (some 36), none⟩,
  ⟨.load none (.tmp 36), (some 37), none⟩,
  ⟨.move (.tmp 37), (some 9), none⟩]
def o35_10 : List AOper := [⟨.fieldAddr 2 (.tmp 8), (some 38), none⟩,
  ⟨.load none (.tmp 38), (some 39), none⟩,
  ⟨.move (.tmp 9), (some 40), none⟩,
  ⟨.bin .gtr (.tmp 39) (.tmp 40), (some 41), none⟩,
  ⟨.move (.tmp 41), (some 42), none⟩,
  ⟨.move (.tmp 9), (some 43), (some (42, false))⟩,
  ⟨.move (.tmp 9), (some 44), (some (42, false))⟩,
  ⟨.bin .neq (.tmp 43) (.tmp 44), (some 45), (some (42, false))⟩,
  ⟨.move (.tmp 45), (some 46), (some (42, false))⟩,
  ⟨.fieldAddr 2 (.tmp 8), (some 47), (some (46, true))⟩,
  ⟨.load none (.tmp 47), (some 48), (some (46, true))⟩,
  ⟨.fieldAddr 2 (.tmp 8), (some 49), (some (46, true))⟩,
  ⟨.load none (.tmp 49), (some 50), (some (46, true))⟩,
  ⟨.bin .eql (.tmp 48) (.tmp 50), (some 51), (some (46, true))⟩,
  ⟨.pick (.tmp 46) (.tmp 51) (.const (.bool false)), (some 52), (some (42, false))⟩,
  ⟨.pick (.tmp 42) (.const (.bool true)) (.tmp 52), (some 53), none⟩]
def o35_11 : List AOper := [⟨.move (.tmp 7), (some 54), none⟩,
  ⟨.move (.tmp 54), (some 5), none⟩]
def o35_12 : List AOper := [⟨.move (.tmp 6), (some 55), none⟩,
  ⟨.fieldAddr 2 (.tmp 8), (some 56), none⟩,
  ⟨.load none (.tmp 56), (some 57), none⟩,
  ⟨.bin .add (.tmp 55) (.tmp 57), (some 58), none⟩,
  ⟨.move (.tmp 58), (some 6), none⟩]
def o35_13 : List AOper := [⟨.move (.tmp 7), (some 59), none⟩,
  ⟨.bin .eql (.tmp 59) (.const (.int .i64 0)), (some 60), none⟩]
def o35_14 : List AOper := [⟨.fieldAddr 2 (.tmp 8), (some 61), none⟩,
  ⟨.load none (.tmp 61), (some 62), none⟩,
  ⟨.move (.tmp 62), (some 6), none⟩]
def o35_15 : List AOper := [⟨.bin .add (.tmp 28) (.const (.int .i64 1)), (some 63), none⟩,
  ⟨.move (.tmp 63), (some 28), none⟩]
def b35_6 : ACode := (.seq (.ops o35_7) (.seq (.cond (.tmp 29) .skip (.exit 0)) (.seq (.block 1 (.seq (.ops o35_8) (.seq (.seq (.ops o35_9) (.seq (.ops o35_10) (.cond (.tmp 53) (.ops o35_11) .skip))) (.seq (.ops o35_12) (.seq (.ops o35_13) (.cond (.tmp 60) (.ops o35_14) .skip)))))) (.ops o35_15))))
def d35_16 : List DOper := [⟨⟨.move (.tmp 0), (some 64), none⟩, 0⟩,
  ⟨⟨.move (.tmp 5), (some 65), none⟩, 0⟩,
  ⟨⟨.addrSl 3 (.tmp 64) (.tmp 65), (some 66), none⟩, 3⟩,
  ⟨⟨.fieldAddr 0 (.tmp 66), (some 67), none⟩, 7⟩,
  ⟨⟨.load none (.tmp 67), (some 68), none⟩, 15⟩,
  ⟨⟨.call (.func 69) [(.tmp 68), (.const (.int .i64 (-1073741824))), (.const (.int .i64 1073741824))], (some 69), none⟩, 31⟩,
  ⟨⟨.move (.tmp 0), (some 70), none⟩, 0⟩,
  ⟨⟨.move (.tmp 5), (some 71), none⟩, 0⟩,
  ⟨⟨.addrSl 3 (.tmp 70) (.tmp 71), (some 72), none⟩, 192⟩,
  ⟨⟨.fieldAddr 1 (.tmp 72), (some 73), none⟩, 448⟩,
  ⟨⟨.load none (.tmp 73), (some 74), none⟩, 960⟩,
  ⟨⟨.call (.func 69) [(.tmp 74), (.const (.int .i64 (-1073741824))), (.const (.int .i64 1073741824))], (some 75), none⟩, 2047⟩,
  ⟨⟨.move (.tmp 69), (some 10), none⟩, 4095⟩,
  ⟨⟨.move (.tmp 75), (some 11), none⟩, 8191⟩]
def o35_17 : List AOper := [⟨.move (.tmp 10), (some 76), none⟩,
  ⟨.conv (.toFloat .f64) (.tmp 76), (some 77), none⟩,
  ⟨.move (.tmp 11), (some 78), none⟩,
  ⟨.conv (.toFloat .f64) (.tmp 78), (some 79), none⟩,
  ⟨.move (.tmp 6), (some 80), none⟩,
  ⟨.move (.tmp 0), (some 81), none⟩,
  ⟨.bu .len [(.tmp 81)], (some 82), none⟩,
  ⟨.build [(.float .f64 0), (.float .f64 0), (.float .f64 0), (.int .i64 0)] [(0, 1, (.tmp 77)), (1, 1, (.tmp 79)), (2, 1, (.tmp 80)), (3, 1, (.tmp 82))], (some 83), none⟩,
  ⟨.alloc 82 [(.float .f64 0), (.float .f64 0), (.float .f64 0), (.int .i64 0)], (some 12), none⟩,
  ⟨.store 4 (.tmp 12) (.tmp 83), none, none⟩]
def o35_18 : List AOper := [⟨.move (.tmp 6), (some 84), none⟩,
  ⟨.bin .gtr (.tmp 84) (.const (.float .f64 0)), (some 85), none⟩,
  ⟨.un .not (.tmp 85), (some 86), none⟩,
  ⟨.move (.tmp 86), (some 87), none⟩,
  ⟨.move (.tmp 6), (some 88), (some (87, false))⟩,
  ⟨.call (.func 24) [(.tmp 88), (.const (.int .i64 1))], (some 89), (some (87, false))⟩,
  ⟨.pick (.tmp 87) (.const (.bool true)) (.tmp 89), (some 90), none⟩]
def o35_19 : List AOper := [⟨.load (some 4) (.tmp 12), (some 91), none⟩,
  ⟨.store 4 (.tmp 4) (.tmp 91), none, none⟩]
def o35_20 : List AOper := [⟨.alloc 122 [(.float .f64 0), (.float .f64 0)], (some 13), none⟩]
def o35_21 : List AOper := [⟨.move (.tmp 0), (some 92), none⟩,
  ⟨.bu .len [(.tmp 92)], (some 93), none⟩,
  ⟨.move (.const (.int .i64 0)), (some 94), none⟩]
def o35_23 : List AOper := [⟨.bin .lss (.tmp 94) (.tmp 93), (some 95), none⟩]
def o35_24 : List AOper := [⟨.move (.tmp 94), (some 96), none⟩,
  ⟨.addrSl 3 (.tmp 92) (.tmp 94), (some 97), none⟩,
  ⟨.load (some 3) (.tmp 97), (some 98), none⟩,
  ⟨.alloc 109 [(.int .i64 0), (.int .i64 0), (.float .f64 0)], (some 15), none⟩,
  ⟨.move (.tmp 96), (some 14), none⟩,
  ⟨.store 3 (.tmp 15) (.tmp 98), none, none⟩]
def d35_25 : List DOper := [⟨⟨.fieldAddr 0 (.tmp 15), (some 99), none⟩, 0⟩,
  ⟨⟨.load none (.tmp 99), (some 100), none⟩, 1⟩,
  ⟨⟨.call (.func 69) [(.tmp 100), (.const (.int .i64 (-1073741824))), (.const (.int .i64 1073741824))], (some 101), none⟩, 3⟩,
  ⟨⟨.move (.tmp 10), (some 102), none⟩, 0⟩,
  ⟨⟨.bin .sub (.tmp 101) (.tmp 102), (some 103), none⟩, 15⟩,
  ⟨⟨.fieldAddr 1 (.tmp 15), (some 104), none⟩, 0⟩,
  ⟨⟨.load none (.tmp 104), (some 105), none⟩, 32⟩,
  ⟨⟨.call (.func 69) [(.tmp 105), (.const (.int .i64 (-1073741824))), (.const (.int .i64 1073741824))], (some 106), none⟩, 103⟩,
  ⟨⟨.move (.tmp 11), (some 107), none⟩, 0⟩,
  ⟨⟨.bin .sub (.tmp 106) (.tmp 107), (some 108), none⟩, 487⟩,
  ⟨⟨.move (.tmp 103), (some 16), none⟩, 255⟩,
  ⟨⟨.move (.tmp 108), (some 17), none⟩, 2047⟩]
def o35_26 : List AOper := [⟨.move (.tmp 1), (some 109), none⟩,
  ⟨.bin .gtr (.tmp 109) (.const (.int .i64 0)), (some 110), none⟩,
  ⟨.move (.tmp 110), (some 111), none⟩,
  ⟨.move (.tmp 16), (some 112), (some (111, true))⟩,
  ⟨.bin .mul (.const (.int .i64 2)) (.tmp 112), (some 113), (some (111, true))⟩,
  ⟨.move (.tmp 1), (some 114), (some (111, true))⟩,
  ⟨.bin .gtr (.tmp 113) (.tmp 114), (some 115), (some (111, true))⟩,
  ⟨.pick (.tmp 111) (.tmp 115) (.const (.bool false)), (some 116), none⟩]
def o35_27 : List AOper := [⟨.move (.tmp 16), (some 117), none⟩,
  ⟨.move (.tmp 1), (some 118), none⟩,
  ⟨.bin .sub (.tmp 117) (.tmp 118), (some 119), none⟩,
  ⟨.move (.tmp 119), (some 16), none⟩]
def o35_28 : List AOper := [⟨.move (.tmp 1), (some 120), none⟩,
  ⟨.bin .gtr (.tmp 120) (.const (.int .i64 0)), (some 121), none⟩,
  ⟨.move (.tmp 121), (some 122), none⟩,
  ⟨.move (.tmp 16), (some 123), (some (122, true))⟩,
  ⟨.bin .mul (.const (.int .i64 2)) (.tmp 123), (some 124), (some (122, true))⟩,
  ⟨.move (.tmp 1), (some 125), (some (122, true))⟩,
  ⟨.un .neg (.tmp 125), (some 126), (some (122, true))⟩,
  ⟨.bin .leq (.tmp 124) (.tmp 126), (some 127), (some (122, true))⟩,
  ⟨.pick (.tmp 122) (.tmp 127) (.const (.bool false)), (some 128), none⟩]
def o35_29 : List AOper := [⟨.move (.tmp 16), (some 129), none⟩,
  ⟨.move (.tmp 1), (some 130), none⟩,
  ⟨.bin .add (.tmp 129) (.tmp 130), (some 131), none⟩,
  ⟨.move (.tmp 131), (some 16), none⟩]
def d35_30 : List DOper := [⟨⟨.fieldAddr 2 (.tmp 15), (some 132), none⟩, 0⟩,
  ⟨⟨.load none (.tmp 132), (some 133), none⟩, 1⟩,
  ⟨⟨.move (.tmp 16), (some 134), none⟩, 0⟩,
  ⟨⟨.conv (.toFloat .f64) (.tmp 134), (some 135), none⟩, 4⟩,
  ⟨⟨.bin .mul (.tmp 133) (.tmp 135), (some 136), none⟩, 15⟩,
  ⟨⟨.fieldAddr 2 (.tmp 15), (some 137), none⟩, 0⟩,
  ⟨⟨.load none (.tmp 137), (some 138), none⟩, 32⟩,
  ⟨⟨.move (.tmp 17), (some 139), none⟩, 0⟩,
  ⟨⟨.conv (.toFloat .f64) (.tmp 139), (some 140), none⟩, 128⟩,
  ⟨⟨.bin .mul (.tmp 138) (.tmp 140), (some 141), none⟩, 480⟩,
  ⟨⟨.move (.tmp 136), (some 18), none⟩, 31⟩,
  ⟨⟨.move (.tmp 141), (some 19), none⟩, 2047⟩]
def o35_31 : List AOper := [⟨.move (.tmp 14), (some 142), none⟩,
  ⟨.bin .eql (.tmp 142) (.const (.int .i64 0)), (some 143), none⟩]
def o35_32 : List AOper := [⟨.move (.tmp 18), (some 144), none⟩,
  ⟨.move (.tmp 19), (some 145), none⟩,
  ⟨.build [(.float .f64 0), (.float .f64 0)] [(0, 1, (.tmp 144)), (1, 1, (.tmp 145))], (some 146), none⟩,
  ⟨.store 2 (.tmp 13) (.tmp 146), none, none⟩]
def o35_33 : List AOper := [⟨.addrArr 2 1 (.tmp 13) (.const (.int .i64 0)), (some 147), none⟩,
  ⟨.load none (.tmp 147), (some 148), none⟩,
  ⟨.move (.tmp 18), (some 149), none⟩,
  ⟨.bin .add (.tmp 148) (.tmp 149), (some 150), none⟩,
  ⟨.addrArr 2 1 (.tmp 13) (.const (.int .i64 0)), (some 151), none⟩,
  ⟨.store 1 (.tmp 151) (.tmp 150), none, none⟩]
def o35_34 : List AOper := [⟨.addrArr 2 1 (.tmp 13) (.const (.int .i64 1)), (some 152), none⟩,
  ⟨.load none (.tmp 152), (some 153), none⟩,
  ⟨.move (.tmp 19), (some 154), none⟩,
  ⟨.bin .add (.tmp 153) (.tmp 154), (some 155), none⟩,
  ⟨.addrArr 2 1 (.tmp 13) (.const (.int .i64 1)), (some 156), none⟩,
  ⟨.store 1 (.tmp 156) (.tmp 155), none, none⟩]
def o35_35 : List AOper := [⟨.bin .add (.tmp 94) (.const (.int .i64 1)), (some 157), none⟩,
  ⟨.move (.tmp 157), (some 94), none⟩]
def b35_22 : ACode := (.seq (.ops o35_23) (.seq (.cond (.tmp 95) .skip (.exit 2)) (.seq (.block 3 (.seq (.ops o35_24) (.seq (.draw d35_25) (.seq (.seq (.ops o35_26) (.cond (.tmp 116) (.ops o35_27) (.seq (.ops o35_28) (.cond (.tmp 128) (.ops o35_29) .skip)))) (.seq (.draw d35_30) (.seq (.seq (.ops o35_31) (.cond (.tmp 143) (.seq (.ops o35_32) (.exit 3)) .skip)) (.seq (.ops o35_33) (.ops o35_34)))))))) (.ops o35_35))))
def o35_36 : List AOper := [⟨.fieldAddr 0 (.tmp 12), (some 158), none⟩,
  ⟨.load none (.tmp 158), (some 159), none⟩,
  ⟨.addrArr 2 1 (.tmp 13) (.const (.int .i64 0)), (some 160), none⟩,
  ⟨.load none (.tmp 160), (some 161), none⟩,
  ⟨.move (.tmp 6), (some 162), none⟩,
  ⟨.bin .quo (.tmp 161) (.tmp 162), (some 163), none⟩,
  ⟨.bin .add (.tmp 159) (.tmp 163), (some 164), none⟩,
  ⟨.fieldAddr 0 (.tmp 12), (some 165), none⟩,
  ⟨.store 1 (.tmp 165) (.tmp 164), none, none⟩]
def o35_37 : List AOper := [⟨.fieldAddr 1 (.tmp 12), (some 166), none⟩,
  ⟨.load none (.tmp 166), (some 167), none⟩,
  ⟨.addrArr 2 1 (.tmp 13) (.const (.int .i64 1)), (some 168), none⟩,
  ⟨.load none (.tmp 168), (some 169), none⟩,
  ⟨.move (.tmp 6), (some 170), none⟩,
  ⟨.bin .quo (.tmp 169) (.tmp 170), (some 171), none⟩,
  ⟨.bin .add (.tmp 167) (.tmp 171), (some 172), none⟩,
  ⟨.fieldAddr 1 (.tmp 12), (some 173), none⟩,
  ⟨.store 1 (.tmp 173) (.tmp 172), none, none⟩]
def o35_38 : List AOper := [⟨.move (.tmp 1), (some 175), none⟩,
  ⟨.bin .gtr (.tmp 175) (.const (.int .i64 0)), (some 176), none⟩,
  ⟨.move (.tmp 176), (some 177), none⟩,
  ⟨.fieldAddr 0 (.tmp 12), (some 178), (some (177, true))⟩,
  ⟨.load none (.tmp 178), (some 179), (some (177, true))⟩,
  ⟨.bin .lss (.tmp 179) (.const (.float .f64 0)), (some 180), (some (177, true))⟩,
  ⟨.pick (.tmp 177) (.tmp 180) (.const (.bool false)), (some 181), none⟩,
  ⟨.move (.tmp 181), (some 174), none⟩]
def o35_39 : List AOper := [⟨.fieldAddr 0 (.tmp 12), (some 182), none⟩,
  ⟨.load none (.tmp 182), (some 183), none⟩,
  ⟨.move (.tmp 1), (some 184), none⟩,
  ⟨.conv (.toFloat .f64) (.tmp 184), (some 185), none⟩,
  ⟨.bin .add (.tmp 183) (.tmp 185), (some 186), none⟩,
  ⟨.fieldAddr 0 (.tmp 12), (some 187), none⟩,
  ⟨.store 1 (.tmp 187) (.tmp 186), none, none⟩]
def o35_40 : List AOper := [⟨.move (.tmp 1), (some 189), none⟩,
  ⟨.bin .gtr (.tmp 189) (.const (.int .i64 0)), (some 190), none⟩,
  ⟨.move (.tmp 190), (some 191), none⟩,
  ⟨.fieldAddr 0 (.tmp 12), (some 192), (some (191, true))⟩,
  ⟨.load none (.tmp 192), (some 193), (some (191, true))⟩,
  ⟨.move (.tmp 1), (some 194), (some (191, true))⟩,
  ⟨.conv (.toFloat .f64) (.tmp 194), (some 195), (some (191, true))⟩,
  ⟨.bin .geq (.tmp 193) (.tmp 195), (some 196), (some (191, true))⟩,
  ⟨.pick (.tmp 191) (.tmp 196) (.const (.bool false)), (some 197), none⟩,
  ⟨.move (.tmp 197), (some 188), none⟩]
def o35_41 : List AOper := [⟨.fieldAddr 0 (.tmp 12), (some 198), none⟩,
  ⟨.load none (.tmp 198), (some 199), none⟩,
  ⟨.move (.tmp 1), (some 200), none⟩,
  ⟨.conv (.toFloat .f64) (.tmp 200), (some 201), none⟩,
  ⟨.bin .sub (.tmp 199) (.tmp 201), (some 202), none⟩,
  ⟨.fieldAddr 0 (.tmp 12), (some 203), none⟩,
  ⟨.store 1 (.tmp 203) (.tmp 202), none, none⟩]
def o35_42 : List AOper := [⟨.load (some 4) (.tmp 12), (some 204), none⟩,
  ⟨.store 4 (.tmp 4) (.tmp 204), none, none⟩]
def ir35 : AFn := ⟨205, [.cell 4 (some 4)], (.seq (.ops o35_0) (.seq (.seq (.ops o35_1) (.cond (.tmp 22) (.seq (.ops o35_2) .ret) .skip)) (.seq (.ops o35_3) (.seq (.ops o35_4) (.seq (.seq (.ops o35_5) (.block 0 (.loop b35_6))) (.seq (.draw d35_16) (.seq (.ops o35_17) (.seq (.seq (.ops o35_18) (.cond (.tmp 90) (.seq (.ops o35_19) .ret) .skip)) (.seq (.ops o35_20) (.seq (.seq (.ops o35_21) (.block 2 (.loop b35_22))) (.seq (.ops o35_36) (.seq (.ops o35_37) (.seq (.block 4 (.seq (.ops o35_38) (.cond (.tmp 174) (.ops o35_39) (.seq (.ops o35_40) (.cond (.tmp 188) (.ops o35_41) .skip))))) (.seq (.ops o35_42) .ret))))))))))))))⟩
theorem ir35_eq : fnsOf Tryz.prog 35 = some ir35 := by kernel_rfl

/-! F36 lookout/plots.Order -/
def o36_0 : List AOper := [⟨.move (.const (.slice none 0 0)), (some 2), none⟩]
def o36_1 : List AOper := [⟨.move (.tmp 0), (some 3), none⟩,
  ⟨.call (.func 70) [(.tmp 3), (.func 71)], (some 4), none⟩,
  ⟨.move (.tmp 4), (some 2), none⟩]
def ir36 : AFn := ⟨5, [.tmp 2], (.seq (.ops o36_0) (.seq (.ops o36_1) .ret))⟩
theorem ir36_eq : fnsOf Tryz.prog 36 = some ir36 := by kernel_rfl

/-! F37 lookout/pulse.signs -/
def o37_0 : List AOper := [⟨.move (.const (.string ⟨#[]⟩)), (some 2), none⟩]
def o37_1 : List AOper := [⟨.move (.tmp 0), (some 3), none⟩]
def o37_2 : List AOper := [⟨.bin .eql (.tmp 3) (.const (.int .i64 2)), (some 5), none⟩,
  ⟨.move (.tmp 5), (some 4), none⟩]
def o37_3 : List AOper := [⟨.move (.const (.string ⟨#[43, 45]⟩)), (some 2), none⟩]
def o37_4 : List AOper := [⟨.bin .eql (.tmp 3) (.const (.int .i64 3)), (some 7), none⟩,
  ⟨.move (.tmp 7), (some 6), none⟩]
def o37_5 : List AOper := [⟨.move (.const (.string ⟨#[43, 43, 45]⟩)), (some 2), none⟩]
def o37_6 : List AOper := [⟨.bin .eql (.tmp 3) (.const (.int .i64 4)), (some 9), none⟩,
  ⟨.move (.tmp 9), (some 8), none⟩]
def o37_7 : List AOper := [⟨.move (.const (.string ⟨#[43, 43, 45, 43]⟩)), (some 2), none⟩]
def o37_8 : List AOper := [⟨.bin .eql (.tmp 3) (.const (.int .i64 5)), (some 11), none⟩,
  ⟨.move (.tmp 11), (some 10), none⟩]
def o37_9 : List AOper := [⟨.move (.const (.string ⟨#[43, 43, 43, 45, 43]⟩)), (some 2), none⟩]
def o37_10 : List AOper := [⟨.bin .eql (.tmp 3) (.const (.int .i64 7)), (some 13), none⟩,
  ⟨.move (.tmp 13), (some 12), none⟩]
def o37_11 : List AOper := [⟨.move (.const (.string ⟨#[43, 43, 43, 45, 45, 43, 45]⟩)), (some 2), none⟩]
def o37_12 : List AOper := [⟨.bin .eql (.tmp 3) (.const (.int .i64 11)), (some 15), none⟩,
  ⟨.move (.tmp 15), (some 14), none⟩]
def o37_13 : List AOper := [⟨.move (.const (.string ⟨#[43, 43, 43, 45, 45, 45, 43, 45, 45, 43, 45]⟩)), (some 2), none⟩]
def o37_14 : List AOper := [⟨.bin .eql (.tmp 3) (.const (.int .i64 13)), (some 17), none⟩,
  ⟨.move (.tmp 17), (some 16), none⟩]
def o37_15 : List AOper := [⟨.move (.const (.string ⟨#[43, 43, 43, 43, 43, 45, 45, 43, 43, 45, 43, 45, 43]⟩)), (some 2), none⟩]
def o37_16 : List AOper := [⟨.move (.const (.string ⟨#[]⟩)), (some 2), none⟩]
def ir37 : AFn := ⟨18, [.tmp 2], (.seq (.ops o37_0) (.seq (.seq (.ops o37_1) (.block 0 (.seq (.ops o37_2) (.cond (.tmp 4) (.seq (.ops o37_3) .ret) (.seq (.ops o37_4) (.cond (.tmp 6) (.seq (.ops o37_5) .ret) (.seq (.ops o37_6) (.cond (.tmp 8) (.seq (.ops o37_7) .ret) (.seq (.ops o37_8) (.cond (.tmp 10) (.seq (.ops o37_9) .ret) (.seq (.ops o37_10) (.cond (.tmp 12) (.seq (.ops o37_11) .ret) (.seq (.ops o37_12) (.cond (.tmp 14) (.seq (.ops o37_13) .ret) (.seq (.ops o37_14) (.cond (.tmp 16) (.seq (.ops o37_15) .ret) .skip)))))))))))))))) (.seq (.ops o37_16) .ret)))⟩
theorem ir37_eq : fnsOf Tryz.prog 37 = some ir37 := by kernel_rfl

/-! F46 lookout/scene.refused -/
def o46_0 : List AOper := [⟨.box 24 (.tmp 0), (some 3), none⟩,
  ⟨.move (.const (.int .i64 0)), (some 6), none⟩]
def o46_1 : List AOper := [⟨.load (some 5) (.tmp 3), (some 8), none⟩,
  ⟨.call (.func 7) [(.tmp 8)], (some 9), none⟩,
  ⟨.move (.tmp 9), (some 7), none⟩]
def o46_2 : List AOper := [⟨.move (.tmp 7), (some 10), none⟩,
  ⟨.bin .neq (.tmp 10) (.const (.int .i64 0)), (some 11), none⟩]
def o46_3 : List AOper := [⟨.move (.tmp 7), (some 12), none⟩,
  ⟨.move (.tmp 12), (some 6), none⟩]
def o46_4 : List AOper := [⟨.move (.tmp 1), (some 13), none⟩,
  ⟨.bu .len [(.tmp 13)], (some 14), none⟩,
  ⟨.bin .eql (.tmp 14) (.const (.int .i64 0)), (some 15), none⟩]
def o46_5 : List AOper := [⟨.move (.const (.int .i64 2)), (some 6), none⟩]
def o46_6 : List AOper := [⟨.move (.tmp 2), (some 16), none⟩,
  ⟨.bin .gtr (.tmp 16) (.const (.int .i64 256)), (some 17), none⟩,
  ⟨.move (.tmp 17), (some 18), none⟩,
  ⟨.move (.tmp 1), (some 19), (some (18, false))⟩,
  ⟨.bu .len [(.tmp 19)], (some 20), (some (18, false))⟩,
  ⟨.bin .gtr (.tmp 20) (.const (.int .i64 16384)), (some 21), (some (18, false))⟩,
  ⟨.pick (.tmp 18) (.const (.bool true)) (.tmp 21), (some 22), none⟩,
  ⟨.move (.tmp 22), (some 23), none⟩,
  ⟨.move (.tmp 2), (some 24), (some (23, false))⟩,
  ⟨.fieldAddr 4 (.tmp 3), (some 25), (some (23, false))⟩,
  ⟨.load none (.tmp 25), (some 26), (some (23, false))⟩,
  ⟨.bin .mul (.tmp 24) (.tmp 26), (some 27), (some (23, false))⟩,
  ⟨.move (.tmp 1), (some 28), (some (23, false))⟩,
  ⟨.bu .len [(.tmp 28)], (some 29), (some (23, false))⟩,
  ⟨.bin .mul (.tmp 27) (.tmp 29), (some 30), (some (23, false))⟩,
  ⟨.bin .gtr (.tmp 30) (.const (.int .i64 16777216)), (some 31), (some (23, false))⟩,
  ⟨.pick (.tmp 23) (.const (.bool true)) (.tmp 31), (some 32), none⟩]
def o46_7 : List AOper := [⟨.move (.const (.int .i64 3)), (some 6), none⟩]
def o46_8 : List AOper := [⟨.move (.const (.int .i64 0)), (some 6), none⟩]
def ir46 : AFn := ⟨33, [.tmp 6], (.seq (.ops o46_0) (.seq (.seq (.ops o46_1) (.seq (.ops o46_2) (.cond (.tmp 11) (.seq (.ops o46_3) .ret) .skip))) (.seq (.seq (.ops o46_4) (.cond (.tmp 15) (.seq (.ops o46_5) .ret) .skip)) (.seq (.seq (.ops o46_6) (.cond (.tmp 32) (.seq (.ops o46_7) .ret) .skip)) (.seq (.ops o46_8) .ret)))))⟩
theorem ir46_eq : fnsOf Tryz.prog 46 = some ir46 := by kernel_rfl

/-! F47 lookout/scene.finite -/
def o47_0 : List AOper := [⟨.move (.const (.bool false)), (some 2), none⟩]
def o47_1 : List AOper := [⟨.move (.tmp 0), (some 5), none⟩,
  ⟨.bu .len [(.tmp 5)], (some 6), none⟩,
  ⟨.move (.const (.int .i64 0)), (some 7), none⟩]
def o47_3 : List AOper := [⟨.bin .lss (.tmp 7) (.tmp 6), (some 8), none⟩]
def o47_4 : List AOper := [⟨.addrSl 1 (.tmp 5) (.tmp 7), (some 9), none⟩,
  ⟨.load none (.tmp 9), (some 10), none⟩,
  ⟨.move (.tmp 10), (some 4), none⟩]
def o47_5 : List AOper := [⟨.move (.tmp 4), (some 11), none⟩,
  ⟨.call (.func 23) [(.tmp 11)], (some 12), none⟩,
  ⟨.move (.tmp 12), (some 13), none⟩,
  ⟨.move (.tmp 4), (some 14), (some (13, false))⟩,
  ⟨.call (.func 24) [(.tmp 14), (.const (.int .i64 0))], (some 15), (some (13, false))⟩,
  ⟨.pick (.tmp 13) (.const (.bool true)) (.tmp 15), (some 16), none⟩]
def o47_6 : List AOper := [⟨.move (.const (.bool false)), (some 2), none⟩]
def o47_7 : List AOper := [⟨.bin .add (.tmp 7) (.const (.int .i64 1)), (some 17), none⟩,
  ⟨.move (.tmp 17), (some 7), none⟩]
def b47_2 : ACode := (.seq (.ops o47_3) (.seq (.cond (.tmp 8) .skip (.exit 0)) (.seq (.block 1 (.seq (.ops o47_4) (.seq (.ops o47_5) (.cond (.tmp 16) (.seq (.ops o47_6) .ret) .skip)))) (.ops o47_7))))
def o47_8 : List AOper := [⟨.move (.const (.bool true)), (some 2), none⟩]
def ir47 : AFn := ⟨18, [.tmp 2], (.seq (.ops o47_0) (.seq (.seq (.ops o47_1) (.block 0 (.loop b47_2))) (.seq (.ops o47_8) .ret)))⟩
theorem ir47_eq : fnsOf Tryz.prog 47 = some ir47 := by kernel_rfl

/-! F48 lookout/scene.blank -/
def o48_0 : List AOper := [⟨.box 24 (.tmp 0), (some 1), none⟩,
  ⟨.move (.const (.slice none 0 0)), (some 2), none⟩,
  ⟨.move (.const (.slice none 0 0)), (some 3), none⟩]
def d48_1 : List DOper := [⟨⟨.fieldAddr 4 (.tmp 1), (some 7), none⟩, 0⟩,
  ⟨⟨.load none (.tmp 7), (some 8), none⟩, 1⟩,
  ⟨⟨.fieldAddr 3 (.tmp 1), (some 9), none⟩, 0⟩,
  ⟨⟨.load none (.tmp 9), (some 10), none⟩, 4⟩,
  ⟨⟨.bin .mul (.tmp 8) (.tmp 10), (some 11), none⟩, 15⟩,
  ⟨⟨.makeSlice 60 16 1 [(.complex .f64 0 0)] (.tmp 11) (.tmp 11), (some 12), none⟩, 31⟩,
  ⟨⟨.fieldAddr 4 (.tmp 1), (some 13), none⟩, 0⟩,
  ⟨⟨.load none (.tmp 13), (some 14), none⟩, 64⟩,
  ⟨⟨.makeSlice 33 24 1 [(.slice none 0 0)] (.tmp 14) (.tmp 14), (some 15), none⟩, 192⟩,
  ⟨⟨.move (.tmp 12), (some 4), none⟩, 63⟩,
  ⟨⟨.move (.tmp 15), (some 5), none⟩, 1023⟩]
def o48_2 : List AOper := [⟨.move (.tmp 5), (some 16), none⟩,
  ⟨.bu .len [(.tmp 16)], (some 17), none⟩,
  ⟨.move (.const (.int .i64 0)), (some 18), none⟩]
def o48_4 : List AOper := [⟨.bin .lss (.tmp 18) (.tmp 17), (some 19), none⟩]
def o48_5 : List AOper := [⟨.move (.tmp 18), (some 20), none⟩,
  ⟨.move (.tmp 20), (some 6), none⟩]
def o48_6 : List AOper := [⟨.move (.tmp 5), (some 21), none⟩,
  ⟨.move (.tmp 6), (some 22), none⟩,
  ⟨.move (.tmp 4), (some 23), none⟩,
  ⟨.move (.tmp 6), (some 24), none⟩,
  ⟨.fieldAddr 3 (.tmp 1), (some 25), none⟩,
  ⟨.load none (.tmp 25), (some 26), none⟩,
  ⟨.bin .mul (.tmp 24) (.tmp 26), (some 27), none⟩,
  ⟨.move (.tmp 6), (some 28), none⟩,
  ⟨.bin .add (.tmp 28) (.const (.int .i64 1)), (some 29), none⟩,
  ⟨.fieldAddr 3 (.tmp 1), (some 30), none⟩,
  ⟨.load none (.tmp 30), (some 31), none⟩,
  ⟨.bin .mul (.tmp 29) (.tmp 31), (some 32), none⟩,
  ⟨.move (.tmp 6), (some 33), none⟩,
  ⟨.bin .add (.tmp 33) (.const (.int .i64 1)), (some 34), none⟩,
  ⟨.fieldAddr 3 (.tmp 1), (some 35), none⟩,
  ⟨.load none (.tmp 35), (some 36), none⟩,
  ⟨.bin .mul (.tmp 34) (.tmp 36), (some 37), none⟩,
  ⟨.slSl 1 (.tmp 23) (some (.tmp 27)) (some (.tmp 32)) (some (.tmp 37)), (some 38), none⟩,
  ⟨.addrSl 1 (.tmp 21) (.tmp 22), (some 39), none⟩,
  ⟨.store 1 (.tmp 39) (.tmp 38), none, none⟩]
def o48_7 : List AOper := [⟨.bin .add (.tmp 18) (.const (.int .i64 1)), (some 40), none⟩,
  ⟨.move (.tmp 40), (some 18), none⟩]
def b48_3 : ACode := (.seq (.ops o48_4) (.seq (.cond (.tmp 19) .skip (.exit 0)) (.seq (.block 1 (.seq (.ops o48_5) (.ops o48_6))) (.ops o48_7))))
def o48_8 : List AOper := [⟨.move (.tmp 5), (some 41), none⟩,
  ⟨.move (.tmp 4), (some 42), none⟩,
  ⟨.move (.tmp 41), (some 2), none⟩,
  ⟨.move (.tmp 42), (some 3), none⟩]
def ir48 : AFn := ⟨43, [.tmp 2, .tmp 3], (.seq (.ops o48_0) (.seq (.draw d48_1) (.seq (.seq (.ops o48_2) (.block 0 (.loop b48_3))) (.seq (.ops o48_8) .ret))))⟩
theorem ir48_eq : fnsOf Tryz.prog 48 = some ir48 := by kernel_rfl

/-! F49 lookout/scene.adder -/
def o49_0 : List AOper := [⟨.box 24 (.tmp 0), (some 4), none⟩,
  ⟨.box 33 (.tmp 1), (some 5), none⟩,
  ⟨.box 22 (.tmp 2), (some 6), none⟩,
  ⟨.box 33 (.tmp 3), (some 7), none⟩,
  ⟨.move (.const .nilFunc), (some 8), none⟩]
def o49_1 : List AOper := [⟨.mkFunc (.func 81) [] [(.tmp 4), (.tmp 6), (.tmp 5), (.tmp 7)], (some 9), none⟩,
  ⟨.move (.tmp 9), (some 8), none⟩]
def ir49 : AFn := ⟨10, [.tmp 8], (.seq (.ops o49_0) (.seq (.ops o49_1) .ret))⟩
theorem ir49_eq : fnsOf Tryz.prog 49 = some ir49 := by kernel_rfl

/-! F52 lookout/dwell.steps$1 -/
def o52_0 : List AOper := [⟨.move (.const (.slice none 0 0)), (some 3), none⟩,
  ⟨.move (.const (.int .i64 0)), (some 4), none⟩]
def o52_1 : List AOper := [⟨.fieldAddr 5 (.tmp 1), (some 8), none⟩,
  ⟨.load none (.tmp 8), (some 9), none⟩,
  ⟨.call (.func 8) [(.tmp 9)], (some 10), none⟩,
  ⟨.move (.tmp 10), (some 7), none⟩,
  ⟨.extract (.tmp 7) 0, (some 11), none⟩,
  ⟨.extract (.tmp 7) 1, (some 12), none⟩,
  ⟨.move (.tmp 11), (some 5), none⟩,
  ⟨.move (.tmp 12), (some 6), none⟩]
def o52_2 : List AOper := [⟨.move (.tmp 0), (some 13), none⟩,
  ⟨.move (.tmp 5), (some 14), none⟩,
  ⟨.call (.func 53) [(.tmp 13), (.tmp 14)], (some 15), none⟩,
  ⟨.extract (.tmp 15) 0, (some 16), none⟩,
  ⟨.extract (.tmp 15) 1, (some 17), none⟩,
  ⟨.move (.tmp 16), (some 3), none⟩,
  ⟨.move (.tmp 17), (some 4), none⟩]
def ir52 : AFn := ⟨18, [.tmp 3, .tmp 4], (.seq (.ops o52_0) (.seq (.ops o52_1) (.seq (.ops o52_2) .ret)))⟩
theorem ir52_eq : fnsOf Tryz.prog 52 = some ir52 := by kernel_rfl

/-! F53 lookout/bank.Compress -/
def o53_0 : List AOper := [⟨.move (.const (.slice none 0 0)), (some 4), none⟩,
  ⟨.move (.const (.int .i64 0)), (some 5), none⟩]
def o53_1 : List AOper := [⟨.move (.tmp 0), (some 12), none⟩,
  ⟨.mkFunc (.func 87) [(.tmp 12)] [], (some 13), none⟩,
  ⟨.move (.tmp 13), (some 6), none⟩]
def o53_2 : List AOper := [⟨.move (.tmp 6), (some 14), none⟩,
  ⟨.call (.tmp 14) [(.const (.int .i64 0))], (some 15), none⟩,
  ⟨.move (.tmp 15), (some 7), none⟩]
def o53_3 : List AOper := [⟨.move (.tmp 7), (some 16), none⟩,
  ⟨.bin .eql (.tmp 16) (.const (.int .i64 5)), (some 17), none⟩]
def o53_4 : List AOper := [⟨.move (.tmp 7), (some 18), none⟩,
  ⟨.move (.const (.slice none 0 0)), (some 4), none⟩,
  ⟨.move (.tmp 18), (some 5), none⟩]
def o53_5 : List AOper := [⟨.move (.tmp 1), (some 19), none⟩,
  ⟨.bu .len [(.tmp 19)], (some 20), none⟩,
  ⟨.bin .eql (.tmp 20) (.const (.int .i64 0)), (some 21), none⟩]
def o53_6 : List AOper := [⟨.move (.const (.slice none 0 0)), (some 4), none⟩,
  ⟨.move (.const (.int .i64 2)), (some 5), none⟩]
def o53_7 : List AOper := [⟨.move (.tmp 6), (some 22), none⟩,
  ⟨.move (.tmp 1), (some 23), none⟩,
  ⟨.bu .len [(.tmp 23)], (some 24), none⟩,
  ⟨.call (.tmp 22) [(.tmp 24)], (some 25), none⟩,
  ⟨.move (.tmp 25), (some 8), none⟩]
def o53_8 : List AOper := [⟨.move (.tmp 8), (some 26), none⟩,
  ⟨.bin .neq (.tmp 26) (.const (.int .i64 0)), (some 27), none⟩,
  ⟨.move (.tmp 27), (some 28), none⟩,
  ⟨.move (.tmp 1), (some 29), (some (28, false))⟩,
  ⟨.bu .len [(.tmp 29)], (some 30), (some (28, false))⟩,
  ⟨.bin .gtr (.tmp 30) (.const (.int .i64 16384)), (some 31), (some (28, false))⟩,
  ⟨.pick (.tmp 28) (.const (.bool true)) (.tmp 31), (some 32), none⟩]
def o53_9 : List AOper := [⟨.move (.const (.slice none 0 0)), (some 4), none⟩,
  ⟨.move (.const (.int .i64 3)), (some 5), none⟩]
def o53_10 : List AOper := [⟨.move (.tmp 0), (some 33), none⟩,
  ⟨.bu .len [(.tmp 33)], (some 34), none⟩,
  ⟨.makeSlice 33 24 1 [(.slice none 0 0)] (.tmp 34) (.tmp 34), (some 35), none⟩,
  ⟨.move (.tmp 35), (some 9), none⟩]
def o53_11 : List AOper := [⟨.move (.tmp 0), (some 36), none⟩,
  ⟨.bu .len [(.tmp 36)], (some 37), none⟩,
  ⟨.move (.const (.int .i64 0)), (some 38), none⟩]
def o53_13 : List AOper := [⟨.bin .lss (.tmp 38) (.tmp 37), (some 39), none⟩]
def o53_14 : List AOper := [⟨.move (.tmp 38), (some 40), none⟩,
  ⟨.addrSl 1 (.tmp 36) (.tmp 38), (some 41), none⟩,
  ⟨.load none (.tmp 41), (some 42), none⟩,
  ⟨.move (.tmp 40), (some 10), none⟩,
  ⟨.move (.tmp 42), (some 11), none⟩]
def o53_15 : List AOper := [⟨.move (.tmp 9), (some 44), none⟩,
  ⟨.move (.tmp 10), (some 45), none⟩,
  ⟨.move (.tmp 11), (some 46), none⟩,
  ⟨.move (.tmp 1), (some 47), none⟩,
  ⟨.call (.func 88) [(.tmp 46), (.tmp 47)], (some 48), none⟩,
  ⟨.move (.tmp 48), (some 43), none⟩,
  ⟨.extract (.tmp 43) 0, (some 49), none⟩,
  ⟨.extract (.tmp 43) 1, (some 50), none⟩,
  ⟨.addrSl 1 (.tmp 44) (.tmp 45), (some 51), none⟩,
  ⟨.store 1 (.tmp 51) (.tmp 49), none, none⟩]
def o53_16 : List AOper := [⟨.bin .add (.tmp 38) (.const (.int .i64 1)), (some 52), none⟩,
  ⟨.move (.tmp 52), (some 38), none⟩]
def b53_12 : ACode := (.seq (.ops o53_13) (.seq (.cond (.tmp 39) .skip (.exit 0)) (.seq (.block 1 (.seq (.ops o53_14) (.ops o53_15))) (.ops o53_16))))
def o53_17 : List AOper := [⟨.move (.tmp 9), (some 53), none⟩,
  ⟨.move (.tmp 53), (some 4), none⟩,
  ⟨.move (.const (.int .i64 0)), (some 5), none⟩]
def ir53 : AFn := ⟨54, [.tmp 4, .tmp 5], (.seq (.ops o53_0) (.seq (.ops o53_1) (.seq (.seq (.ops o53_2) (.seq (.ops o53_3) (.cond (.tmp 17) (.seq (.ops o53_4) .ret) .skip))) (.seq (.seq (.ops o53_5) (.cond (.tmp 21) (.seq (.ops o53_6) .ret) .skip)) (.seq (.seq (.ops o53_7) (.seq (.ops o53_8) (.cond (.tmp 32) (.seq (.ops o53_9) .ret) .skip))) (.seq (.ops o53_10) (.seq (.seq (.ops o53_11) (.block 0 (.loop b53_12))) (.seq (.ops o53_17) .ret))))))))⟩
theorem ir53_eq : fnsOf Tryz.prog 53 = some ir53 := by kernel_rfl

/-! F54 lookout/dwell.steps$2 -/
def o54_0 : List AOper := [⟨.move (.const (.slice none 0 0)), (some 3), none⟩,
  ⟨.move (.const (.int .i64 0)), (some 4), none⟩]
def o54_1 : List AOper := [⟨.move (.tmp 0), (some 5), none⟩,
  ⟨.fieldAddr 7 (.tmp 1), (some 6), none⟩,
  ⟨.load none (.tmp 6), (some 7), none⟩,
  ⟨.call (.func 55) [(.tmp 5), (.tmp 7)], (some 8), none⟩,
  ⟨.extract (.tmp 8) 0, (some 9), none⟩,
  ⟨.extract (.tmp 8) 1, (some 10), none⟩,
  ⟨.move (.tmp 9), (some 3), none⟩,
  ⟨.move (.tmp 10), (some 4), none⟩]
def ir54 : AFn := ⟨11, [.tmp 3, .tmp 4], (.seq (.ops o54_0) (.seq (.ops o54_1) .ret))⟩
theorem ir54_eq : fnsOf Tryz.prog 54 = some ir54 := by kernel_rfl

/-! F55 lookout/still.Cancel -/
def o55_0 : List AOper := [⟨.move (.const (.slice none 0 0)), (some 4), none⟩,
  ⟨.move (.const (.int .i64 0)), (some 5), none⟩]
def o55_1 : List AOper := [⟨.move (.tmp 1), (some 13), none⟩,
  ⟨.bin .lss (.tmp 13) (.const (.int .i64 0)), (some 14), none⟩,
  ⟨.move (.tmp 14), (some 15), none⟩,
  ⟨.move (.tmp 1), (some 16), (some (15, false))⟩,
  ⟨.bin .gtr (.tmp 16) (.const (.int .i64 8)), (some 17), (some (15, false))⟩,
  ⟨.pick (.tmp 15) (.const (.bool true)) (.tmp 17), (some 18), none⟩,
  ⟨.move (.tmp 18), (some 19), none⟩,
  ⟨.move (.tmp 0), (some 20), (some (19, false))⟩,
  ⟨.bu .len [(.tmp 20)], (some 21), (some (19, false))⟩,
  ⟨.move (.tmp 1), (some 22), (some (19, false))⟩,
  ⟨.bin .leq (.tmp 21) (.tmp 22), (some 23), (some (19, false))⟩,
  ⟨.pick (.tmp 19) (.const (.bool true)) (.tmp 23), (some 24), none⟩]
def o55_2 : List AOper := [⟨.move (.const (.slice none 0 0)), (some 4), none⟩,
  ⟨.move (.const (.int .i64 2)), (some 5), none⟩]
def o55_3 : List AOper := [⟨.move (.tmp 0), (some 25), none⟩,
  ⟨.call (.func 89) [(.tmp 25)], (some 26), none⟩,
  ⟨.move (.tmp 26), (some 6), none⟩]
def o55_4 : List AOper := [⟨.move (.tmp 6), (some 27), none⟩,
  ⟨.bin .neq (.tmp 27) (.const (.int .i64 0)), (some 28), none⟩]
def o55_5 : List AOper := [⟨.move (.tmp 6), (some 29), none⟩,
  ⟨.move (.const (.slice none 0 0)), (some 4), none⟩,
  ⟨.move (.tmp 29), (some 5), none⟩]
def o55_6 : List AOper := [⟨.move (.tmp 0), (some 30), none⟩,
  ⟨.bu .len [(.tmp 30)], (some 31), none⟩,
  ⟨.makeSlice 33 24 1 [(.slice none 0 0)] (.tmp 31) (.tmp 31), (some 32), none⟩,
  ⟨.move (.tmp 32), (some 7), none⟩]
def o55_7 : List AOper := [⟨.move (.tmp 0), (some 33), none⟩,
  ⟨.bu .len [(.tmp 33)], (some 34), none⟩,
  ⟨.move (.const (.int .i64 0)), (some 35), none⟩]
def o55_9 : List AOper := [⟨.bin .lss (.tmp 35) (.tmp 34), (some 36), none⟩]
def o55_10 : List AOper := [⟨.move (.tmp 35), (some 37), none⟩,
  ⟨.addrSl 1 (.tmp 33) (.tmp 35), (some 38), none⟩,
  ⟨.load none (.tmp 38), (some 39), none⟩,
  ⟨.move (.tmp 37), (some 8), none⟩,
  ⟨.move (.tmp 39), (some 9), none⟩]
def o55_11 : List AOper := [⟨.move (.tmp 7), (some 40), none⟩,
  ⟨.move (.tmp 8), (some 41), none⟩,
  ⟨.move (.tmp 9), (some 42), none⟩,
  ⟨.append 60 16 1 [(.complex .f64 0 0)] (.const (.slice none 0 0)) (.tmp 42), (some 43), none⟩,
  ⟨.addrSl 1 (.tmp 40) (.tmp 41), (some 44), none⟩,
  ⟨.store 1 (.tmp 44) (.tmp 43), none, none⟩]
def o55_12 : List AOper := [⟨.bin .add (.tmp 35) (.const (.int .i64 1)), (some 45), none⟩,
  ⟨.move (.tmp 45), (some 35), none⟩]
def b55_8 : ACode := (.seq (.ops o55_9) (.seq (.cond (.tmp 36) .skip (.exit 0)) (.seq (.block 1 (.seq (.ops o55_10) (.ops o55_11))) (.ops o55_12))))
def o55_13 : List AOper := [⟨.move (.tmp 1), (some 46), none⟩,
  ⟨.move (.const (.int .i64 0)), (some 47), none⟩]
def o55_15 : List AOper := [⟨.bin .lss (.tmp 47) (.tmp 46), (some 48), none⟩]
def o55_16 : List AOper := [⟨.move (.tmp 7), (some 49), none⟩,
  ⟨.bu .len [(.tmp 49)], (some 50), none⟩,
  ⟨.bin .sub (.tmp 50) (.const (.int .i64 1)), (some 51), none⟩,
  ⟨.move (.const (.int .i64 0)), (some 52), none⟩]
def o55_18 : List AOper := [⟨.bin .lss (.tmp 52) (.tmp 51), (some 53), none⟩]
def o55_19 : List AOper := [⟨.move (.tmp 52), (some 54), none⟩,
  ⟨.move (.tmp 54), (some 10), none⟩]
def o55_20 : List AOper := [⟨.move (.tmp 7), (some 55), none⟩,
  ⟨.move (.tmp 10), (some 56), none⟩,
  ⟨.addrSl 1 (.tmp 55) (.tmp 56), (some 57), none⟩,
  ⟨.load none (.tmp 57), (some 58), none⟩,
  ⟨.bu .len [(.tmp 58)], (some 59), none⟩,
  ⟨.move (.const (.int .i64 0)), (some 60), none⟩]
def o55_22 : List AOper := [⟨.bin .lss (.tmp 60) (.tmp 59), (some 61), none⟩]
def o55_23 : List AOper := [⟨.move (.tmp 60), (some 62), none⟩,
  ⟨.addrSl 1 (.tmp 58) (.tmp 60), (some 63), none⟩,
  ⟨.load none (.tmp 63), (some 64), none⟩,
  ⟨.move (.tmp 62), (some 11), none⟩,
  ⟨.move (.tmp 64), (some 12), none⟩]
def d55_24 : List DOper := [⟨⟨.move (.tmp 7), (some 65), none⟩, 0⟩,
  ⟨⟨.move (.tmp 10), (some 66), none⟩, 0⟩,
  ⟨⟨.addrSl 1 (.tmp 65) (.tmp 66), (some 67), none⟩, 3⟩,
  ⟨⟨.load none (.tmp 67), (some 68), none⟩, 7⟩,
  ⟨⟨.move (.tmp 11), (some 69), none⟩, 0⟩,
  ⟨⟨.move (.tmp 7), (some 70), none⟩, 0⟩,
  ⟨⟨.move (.tmp 10), (some 71), none⟩, 0⟩,
  ⟨⟨.bin .add (.tmp 71) (.const (.int .i64 1)), (some 72), none⟩, 64⟩,
  ⟨⟨.addrSl 1 (.tmp 70) (.tmp 72), (some 73), none⟩, 224⟩,
  ⟨⟨.load none (.tmp 73), (some 74), none⟩, 480⟩,
  ⟨⟨.move (.tmp 11), (some 75), none⟩, 0⟩,
  ⟨⟨.addrSl 1 (.tmp 74) (.tmp 75), (some 76), none⟩, 2016⟩,
  ⟨⟨.load none (.tmp 76), (some 77), none⟩, 4064⟩,
  ⟨⟨.addrSl 1 (.tmp 68) (.tmp 69), (some 78), none⟩, 8191⟩,
  ⟨⟨.store 1 (.tmp 78) (.tmp 77), none, none⟩, 16383⟩]
def o55_25 : List AOper := [⟨.move (.tmp 7), (some 79), none⟩,
  ⟨.move (.tmp 10), (some 80), none⟩,
  ⟨.addrSl 1 (.tmp 79) (.tmp 80), (some 81), none⟩,
  ⟨.load none (.tmp 81), (some 82), none⟩,
  ⟨.move (.tmp 11), (some 83), none⟩,
  ⟨.addrSl 1 (.tmp 82) (.tmp 83), (some 84), none⟩,
  ⟨.load none (.tmp 84), (some 85), none⟩,
  ⟨.move (.tmp 12), (some 86), none⟩,
  ⟨.bin .sub (.tmp 85) (.tmp 86), (some 87), none⟩,
  ⟨.addrSl 1 (.tmp 82) (.tmp 83), (some 88), none⟩,
  ⟨.store 1 (.tmp 88) (.tmp 87), none, none⟩]
def o55_26 : List AOper := [⟨.bin .add (.tmp 60) (.const (.int .i64 1)), (some 89), none⟩,
  ⟨.move (.tmp 89), (some 60), none⟩]
def b55_21 : ACode := (.seq (.ops o55_22) (.seq (.cond (.tmp 61) .skip (.exit 6)) (.seq (.block 7 (.seq (.ops o55_23) (.seq (.draw d55_24) (.ops o55_25)))) (.ops o55_26))))
def o55_27 : List AOper := [⟨.bin .add (.tmp 52) (.const (.int .i64 1)), (some 90), none⟩,
  ⟨.move (.tmp 90), (some 52), none⟩]
def b55_17 : ACode := (.seq (.ops o55_18) (.seq (.cond (.tmp 53) .skip (.exit 4)) (.seq (.block 5 (.seq (.ops o55_19) (.seq (.ops o55_20) (.block 6 (.loop b55_21))))) (.ops o55_27))))
def o55_28 : List AOper := [⟨.move (.tmp 7), (some 91), none⟩,
  ⟨.move (.tmp 7), (some 92), none⟩,
  ⟨.bu .len [(.tmp 92)], (some 93), none⟩,
  ⟨.bin .sub (.tmp 93) (.const (.int .i64 1)), (some 94), none⟩,
  ⟨.slSl 1 (.tmp 91) none (some (.tmp 94)) none, (some 95), none⟩,
  ⟨.move (.tmp 95), (some 7), none⟩]
def o55_29 : List AOper := [⟨.bin .add (.tmp 47) (.const (.int .i64 1)), (some 96), none⟩,
  ⟨.move (.tmp 96), (some 47), none⟩]
def b55_14 : ACode := (.seq (.ops o55_15) (.seq (.cond (.tmp 48) .skip (.exit 2)) (.seq (.block 3 (.seq (.seq (.ops o55_16) (.block 4 (.loop b55_17))) (.ops o55_28))) (.ops o55_29))))
def o55_30 : List AOper := [⟨.move (.tmp 7), (some 97), none⟩,
  ⟨.append 33 24 1 [(.slice none 0 0)] (.const (.slice none 0 0)) (.tmp 97), (some 98), none⟩,
  ⟨.move (.tmp 98), (some 4), none⟩,
  ⟨.move (.const (.int .i64 0)), (some 5), none⟩]
def ir55 : AFn := ⟨99, [.tmp 4, .tmp 5], (.seq (.ops o55_0) (.seq (.seq (.ops o55_1) (.cond (.tmp 24) (.seq (.ops o55_2) .ret) .skip)) (.seq (.seq (.ops o55_3) (.seq (.ops o55_4) (.cond (.tmp 28) (.seq (.ops o55_5) .ret) .skip))) (.seq (.ops o55_6) (.seq (.seq (.ops o55_7) (.block 0 (.loop b55_8))) (.seq (.seq (.ops o55_13) (.block 2 (.loop b55_14))) (.seq (.ops o55_30) .ret)))))))⟩
theorem ir55_eq : fnsOf Tryz.prog 55 = some ir55 := by kernel_rfl

/-! F56 lookout/dwell.steps$3 -/
def o56_0 : List AOper := [⟨.move (.const (.slice none 0 0)), (some 3), none⟩,
  ⟨.move (.const (.int .i64 0)), (some 4), none⟩]
def o56_1 : List AOper := [⟨.move (.tmp 0), (some 5), none⟩,
  ⟨.fieldAddr 6 (.tmp 1), (some 6), none⟩,
  ⟨.load none (.tmp 6), (some 7), none⟩,
  ⟨.move (.tmp 0), (some 8), none⟩,
  ⟨.bu .len [(.tmp 8)], (some 9), none⟩,
  ⟨.call (.func 58) [(.tmp 7), (.tmp 9)], (some 10), none⟩,
  ⟨.call (.func 57) [(.tmp 5), (.tmp 10)], (some 11), none⟩,
  ⟨.extract (.tmp 11) 0, (some 12), none⟩,
  ⟨.extract (.tmp 11) 1, (some 13), none⟩,
  ⟨.move (.tmp 12), (some 3), none⟩,
  ⟨.move (.tmp 13), (some 4), none⟩]
def ir56 : AFn := ⟨14, [.tmp 3, .tmp 4], (.seq (.ops o56_0) (.seq (.ops o56_1) .ret))⟩
theorem ir56_eq : fnsOf Tryz.prog 56 = some ir56 := by kernel_rfl

/-! F57 lookout/bank.Doppler -/
def o57_0 : List AOper := [⟨.move (.const (.slice none 0 0)), (some 4), none⟩,
  ⟨.move (.const (.int .i64 0)), (some 5), none⟩]
def o57_1 : List AOper := [⟨.move (.tmp 0), (some 19), none⟩,
  ⟨.call (.func 90) [(.tmp 19)], (some 20), none⟩,
  ⟨.move (.tmp 20), (some 18), none⟩,
  ⟨.extract (.tmp 18) 0, (some 21), none⟩,
  ⟨.extract (.tmp 18) 1, (some 22), none⟩,
  ⟨.move (.tmp 21), (some 6), none⟩,
  ⟨.move (.tmp 22), (some 7), none⟩]
def o57_2 : List AOper := [⟨.move (.tmp 7), (some 23), none⟩,
  ⟨.un .not (.tmp 23), (some 24), none⟩,
  ⟨.move (.tmp 24), (some 25), none⟩,
  ⟨.move (.tmp 1), (some 26), (some (25, false))⟩,
  ⟨.bu .len [(.tmp 26)], (some 27), (some (25, false))⟩,
  ⟨.move (.tmp 0), (some 28), (some (25, false))⟩,
  ⟨.bu .len [(.tmp 28)], (some 29), (some (25, false))⟩,
  ⟨.bin .neq (.tmp 27) (.tmp 29), (some 30), (some (25, false))⟩,
  ⟨.pick (.tmp 25) (.const (.bool true)) (.tmp 30), (some 31), none⟩]
def o57_3 : List AOper := [⟨.move (.const (.slice none 0 0)), (some 4), none⟩,
  ⟨.move (.const (.int .i64 5)), (some 5), none⟩]
def o57_4 : List AOper := [⟨.move (.tmp 0), (some 32), none⟩,
  ⟨.move (.tmp 0), (some 33), none⟩,
  ⟨.bu .len [(.tmp 33)], (some 34), none⟩,
  ⟨.call (.func 87) [(.tmp 32), (.tmp 34)], (some 35), none⟩,
  ⟨.move (.tmp 35), (some 8), none⟩]
def o57_5 : List AOper := [⟨.move (.tmp 8), (some 36), none⟩,
  ⟨.bin .neq (.tmp 36) (.const (.int .i64 0)), (some 37), none⟩]
def o57_6 : List AOper := [⟨.move (.tmp 8), (some 38), none⟩,
  ⟨.move (.const (.slice none 0 0)), (some 4), none⟩,
  ⟨.move (.tmp 38), (some 5), none⟩]
def d57_7 : List DOper := [⟨⟨.move (.tmp 0), (some 39), none⟩, 0⟩,
  ⟨⟨.bu .len [(.tmp 39)], (some 40), none⟩, 1⟩,
  ⟨⟨.move (.tmp 6), (some 41), none⟩, 0⟩,
  ⟨⟨.call (.func 91) [(.tmp 40), (.tmp 41)], (some 42), none⟩, 7⟩,
  ⟨⟨.move (.tmp 0), (some 43), none⟩, 0⟩,
  ⟨⟨.bu .len [(.tmp 43)], (some 44), none⟩, 16⟩,
  ⟨⟨.makeSlice 60 16 1 [(.complex .f64 0 0)] (.tmp 44) (.tmp 44), (some 45), none⟩, 48⟩,
  ⟨⟨.move (.tmp 42), (some 9), none⟩, 15⟩,
  ⟨⟨.move (.tmp 45), (some 10), none⟩, 255⟩]
def o57_8 : List AOper := [⟨.move (.tmp 6), (some 46), none⟩,
  ⟨.move (.const (.int .i64 0)), (some 47), none⟩]
def o57_10 : List AOper := [⟨.bin .lss (.tmp 47) (.tmp 46), (some 48), none⟩]
def o57_11 : List AOper := [⟨.move (.tmp 47), (some 49), none⟩,
  ⟨.move (.tmp 49), (some 11), none⟩]
def o57_12 : List AOper := [⟨.move (.tmp 0), (some 50), none⟩,
  ⟨.bu .len [(.tmp 50)], (some 51), none⟩,
  ⟨.move (.const (.int .i64 0)), (some 52), none⟩]
def o57_14 : List AOper := [⟨.bin .lss (.tmp 52) (.tmp 51), (some 53), none⟩]
def o57_15 : List AOper := [⟨.move (.tmp 52), (some 54), none⟩,
  ⟨.addrSl 1 (.tmp 50) (.tmp 52), (some 55), none⟩,
  ⟨.load none (.tmp 55), (some 56), none⟩,
  ⟨.move (.tmp 54), (some 12), none⟩,
  ⟨.move (.tmp 56), (some 13), none⟩]
def d57_16 : List DOper := [⟨⟨.move (.tmp 10), (some 57), none⟩, 0⟩,
  ⟨⟨.move (.tmp 12), (some 58), none⟩, 0⟩,
  ⟨⟨.move (.tmp 13), (some 59), none⟩, 0⟩,
  ⟨⟨.move (.tmp 11), (some 60), none⟩, 0⟩,
  ⟨⟨.addrSl 1 (.tmp 59) (.tmp 60), (some 61), none⟩, 12⟩,
  ⟨⟨.load none (.tmp 61), (some 62), none⟩, 28⟩,
  ⟨⟨.move (.tmp 1), (some 63), none⟩, 0⟩,
  ⟨⟨.move (.tmp 12), (some 64), none⟩, 0⟩,
  ⟨⟨.addrSl 1 (.tmp 63) (.tmp 64), (some 65), none⟩, 192⟩,
  ⟨⟨.load none (.tmp 65), (some 66), none⟩, 448⟩,
  ⟨⟨.call (.func 84) [(.tmp 62), (.tmp 66)], (some 67), none⟩, 1020⟩,
  ⟨⟨.addrSl 1 (.tmp 57) (.tmp 58), (some 68), none⟩, 2047⟩,
  ⟨⟨.store 1 (.tmp 68) (.tmp 67), none, none⟩, 4095⟩]
def o57_17 : List AOper := [⟨.bin .add (.tmp 52) (.const (.int .i64 1)), (some 69), none⟩,
  ⟨.move (.tmp 69), (some 52), none⟩]
def b57_13 : ACode := (.seq (.ops o57_14) (.seq (.cond (.tmp 53) .skip (.exit 2)) (.seq (.block 3 (.seq (.ops o57_15) (.draw d57_16))) (.ops o57_17))))
def o57_18 : List AOper := [⟨.move (.tmp 10), (some 71), none⟩,
  ⟨.call (.func 92) [(.tmp 71), (.const (.bool false))], (some 72), none⟩,
  ⟨.move (.tmp 72), (some 70), none⟩,
  ⟨.extract (.tmp 70) 0, (some 73), none⟩,
  ⟨.extract (.tmp 70) 1, (some 74), none⟩,
  ⟨.move (.tmp 73), (some 14), none⟩,
  ⟨.move (.tmp 74), (some 15), none⟩]
def o57_19 : List AOper := [⟨.move (.tmp 14), (some 75), none⟩,
  ⟨.bu .len [(.tmp 75)], (some 76), none⟩,
  ⟨.move (.const (.int .i64 0)), (some 77), none⟩]
def o57_21 : List AOper := [⟨.bin .lss (.tmp 77) (.tmp 76), (some 78), none⟩]
def o57_22 : List AOper := [⟨.move (.tmp 77), (some 79), none⟩,
  ⟨.addrSl 1 (.tmp 75) (.tmp 77), (some 80), none⟩,
  ⟨.load none (.tmp 80), (some 81), none⟩,
  ⟨.move (.tmp 79), (some 16), none⟩,
  ⟨.move (.tmp 81), (some 17), none⟩]
def o57_23 : List AOper := [⟨.move (.tmp 9), (some 82), none⟩,
  ⟨.move (.tmp 16), (some 83), none⟩,
  ⟨.addrSl 1 (.tmp 82) (.tmp 83), (some 84), none⟩,
  ⟨.load none (.tmp 84), (some 85), none⟩,
  ⟨.move (.tmp 11), (some 86), none⟩,
  ⟨.move (.tmp 17), (some 87), none⟩,
  ⟨.addrSl 1 (.tmp 85) (.tmp 86), (some 88), none⟩,
  ⟨.store 1 (.tmp 88) (.tmp 87), none, none⟩]
def o57_24 : List AOper := [⟨.bin .add (.tmp 77) (.const (.int .i64 1)), (some 89), none⟩,
  ⟨.move (.tmp 89), (some 77), none⟩]
def b57_20 : ACode := (.seq (.ops o57_21) (.seq (.cond (.tmp 78) .skip (.exit 4)) (.seq (.block 5 (.seq (.ops o57_22) (.ops o57_23))) (.ops o57_24))))
def o57_25 : List AOper := [⟨.bin .add (.tmp 47) (.const (.int .i64 1)), (some 90), none⟩,
  ⟨.move (.tmp 90), (some 47), none⟩]
def b57_9 : ACode := (.seq (.ops o57_10) (.seq (.cond (.tmp 48) .skip (.exit 0)) (.seq (.block 1 (.seq (.ops o57_11) (.seq (.seq (.ops o57_12) (.block 2 (.loop b57_13))) (.seq (.ops o57_18) (.seq (.ops o57_19) (.block 4 (.loop b57_20))))))) (.ops o57_25))))
def o57_26 : List AOper := [⟨.move (.tmp 9), (some 91), none⟩,
  ⟨.move (.tmp 91), (some 4), none⟩,
  ⟨.move (.const (.int .i64 0)), (some 5), none⟩]
def ir57 : AFn := ⟨92, [.tmp 4, .tmp 5], (.seq (.ops o57_0) (.seq (.ops o57_1) (.seq (.seq (.ops o57_2) (.cond (.tmp 31) (.seq (.ops o57_3) .ret) .skip)) (.seq (.seq (.ops o57_4) (.seq (.ops o57_5) (.cond (.tmp 37) (.seq (.ops o57_6) .ret) .skip))) (.seq (.draw d57_7) (.seq (.seq (.ops o57_8) (.block 0 (.loop b57_9))) (.seq (.ops o57_26) .ret)))))))⟩
theorem ir57_eq : fnsOf Tryz.prog 57 = some ir57 := by kernel_rfl


end Go.Proofs.YtcocakiincejaaaGreat
