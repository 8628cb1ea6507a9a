/- The small machine's text of functions of the seat. -/
import Derived.Test.YtcocakiincejaaaGreatRows
import Derived.Test.YtcocakiincejaaaGreatVam25
import Derived.KernelRfl
namespace Go.Proofs.YtcocakiincejaaaGreat
open Go Go.Vam

/-! F58 lookout/pulse.Window -/
def o58_0 : List AOper := [⟨.move (.const (.slice none 0 0)), (some 4), none⟩]
def o58_1 : List AOper := [⟨.move (.tmp 1), (some 8), none⟩,
  ⟨.bin .lss (.tmp 8) (.const (.int .i64 1)), (some 9), none⟩,
  ⟨.move (.tmp 9), (some 10), none⟩,
  ⟨.move (.tmp 1), (some 11), (some (10, false))⟩,
  ⟨.bin .gtr (.tmp 11) (.const (.int .i64 16384)), (some 12), (some (10, false))⟩,
  ⟨.pick (.tmp 10) (.const (.bool true)) (.tmp 12), (some 13), none⟩]
def o58_2 : List AOper := [⟨.move (.const (.slice none 0 0)), (some 4), none⟩]
def o58_3 : List AOper := [⟨.move (.tmp 1), (some 14), none⟩,
  ⟨.makeSlice 22 8 1 [(.float .f64 0)] (.tmp 14) (.tmp 14), (some 15), none⟩,
  ⟨.move (.tmp 15), (some 5), none⟩]
def o58_4 : List AOper := [⟨.move (.tmp 5), (some 16), none⟩,
  ⟨.bu .len [(.tmp 16)], (some 17), none⟩,
  ⟨.move (.const (.int .i64 0)), (some 18), none⟩]
def o58_6 : List AOper := [⟨.bin .lss (.tmp 18) (.tmp 17), (some 19), none⟩]
def o58_7 : List AOper := [⟨.move (.tmp 18), (some 20), none⟩,
  ⟨.move (.tmp 20), (some 6), none⟩]
def o58_8 : List AOper := [⟨.move (.tmp 6), (some 21), none⟩,
  ⟨.move (.tmp 1), (some 22), none⟩,
  ⟨.call (.func 38) [(.tmp 21), (.tmp 22)], (some 23), none⟩,
  ⟨.bu .real [(.tmp 23)], (some 24), none⟩,
  ⟨.move (.tmp 24), (some 7), none⟩]
def o58_9 : List AOper := [⟨.move (.tmp 0), (some 25), none⟩]
def o58_10 : List AOper := [⟨.bin .eql (.tmp 25) (.const (.int .i8 1)), (some 30), none⟩,
  ⟨.move (.tmp 30), (some 29), none⟩]
def o58_11 : List AOper := [⟨.move (.tmp 5), (some 31), none⟩,
  ⟨.move (.tmp 6), (some 32), none⟩,
  ⟨.move (.tmp 7), (some 33), none⟩,
  ⟨.bin .mul (.const (.float .f64 4602678819172646912)) (.tmp 33), (some 34), none⟩,
  ⟨.bin .sub (.const (.float .f64 4602678819172646912)) (.tmp 34), (some 35), none⟩,
  ⟨.addrSl 1 (.tmp 31) (.tmp 32), (some 36), none⟩,
  ⟨.store 1 (.tmp 36) (.tmp 35), none, none⟩]
def o58_12 : List AOper := [⟨.bin .eql (.tmp 25) (.const (.int .i8 2)), (some 38), none⟩,
  ⟨.move (.tmp 38), (some 37), none⟩]
def o58_13 : List AOper := [⟨.move (.tmp 5), (some 39), none⟩,
  ⟨.move (.tmp 6), (some 40), none⟩,
  ⟨.move (.tmp 7), (some 41), none⟩,
  ⟨.bin .mul (.const (.float .f64 4601958243232267633)) (.tmp 41), (some 42), none⟩,
  ⟨.bin .sub (.const (.float .f64 4603039107142836552)) (.tmp 42), (some 43), none⟩,
  ⟨.addrSl 1 (.tmp 39) (.tmp 40), (some 44), none⟩,
  ⟨.store 1 (.tmp 44) (.tmp 43), none, none⟩]
def o58_14 : List AOper := [⟨.bin .eql (.tmp 25) (.const (.int .i8 3)), (some 46), none⟩,
  ⟨.move (.tmp 46), (some 45), none⟩]
def o58_15 : List AOper := [⟨.move (.tmp 5), (some 47), none⟩,
  ⟨.move (.tmp 6), (some 48), none⟩,
  ⟨.move (.tmp 6), (some 49), none⟩,
  ⟨.bin .mul (.const (.int .i64 2)) (.tmp 49), (some 50), none⟩,
  ⟨.bin .add (.tmp 50) (.const (.int .i64 1)), (some 51), none⟩,
  ⟨.move (.tmp 1), (some 52), none⟩,
  ⟨.bin .sub (.tmp 51) (.tmp 52), (some 53), none⟩,
  ⟨.conv (.toFloat .f64) (.tmp 53), (some 54), none⟩,
  ⟨.ext 5 41 [(.tmp 54)], (some 55), none⟩,
  ⟨.move (.tmp 1), (some 56), none⟩,
  ⟨.conv (.toFloat .f64) (.tmp 56), (some 57), none⟩,
  ⟨.bin .quo (.tmp 55) (.tmp 57), (some 58), none⟩,
  ⟨.bin .sub (.const (.float .f64 4607182418800017408)) (.tmp 58), (some 59), none⟩,
  ⟨.addrSl 1 (.tmp 47) (.tmp 48), (some 60), none⟩,
  ⟨.store 1 (.tmp 60) (.tmp 59), none, none⟩]
def o58_16 : List AOper := [⟨.move (.tmp 5), (some 26), none⟩,
  ⟨.move (.tmp 6), (some 27), none⟩,
  ⟨.addrSl 1 (.tmp 26) (.tmp 27), (some 28), none⟩,
  ⟨.store 1 (.tmp 28) (.const (.float .f64 4607182418800017408)), none, none⟩]
def o58_17 : List AOper := [⟨.bin .add (.tmp 18) (.const (.int .i64 1)), (some 61), none⟩,
  ⟨.move (.tmp 61), (some 18), none⟩]
def b58_5 : ACode := (.seq (.ops o58_6) (.seq (.cond (.tmp 19) .skip (.exit 0)) (.seq (.block 1 (.seq (.ops o58_7) (.seq (.ops o58_8) (.seq (.ops o58_9) (.block 2 (.seq (.ops o58_10) (.cond (.tmp 29) (.ops o58_11) (.seq (.ops o58_12) (.cond (.tmp 37) (.ops o58_13) (.seq (.ops o58_14) (.cond (.tmp 45) (.ops o58_15) (.ops o58_16)))))))))))) (.ops o58_17))))
def o58_18 : List AOper := [⟨.move (.tmp 5), (some 62), none⟩,
  ⟨.move (.tmp 62), (some 4), none⟩]
def ir58 : AFn := ⟨63, [.tmp 4], (.seq (.ops o58_0) (.seq (.seq (.ops o58_1) (.cond (.tmp 13) (.seq (.ops o58_2) .ret) .skip)) (.seq (.ops o58_3) (.seq (.seq (.ops o58_4) (.block 0 (.loop b58_5))) (.seq (.ops o58_18) .ret)))))⟩
theorem ir58_eq : fnsOf Tryz.prog 58 = some ir58 := by kernel_rfl

/-! F59 lookout/cplx.Abs2 -/
def o59_0 : List AOper := [⟨.move (.const (.float .f64 0)), (some 2), none⟩]
def o59_1 : List AOper := [⟨.move (.tmp 0), (some 3), none⟩,
  ⟨.bu .real [(.tmp 3)], (some 4), none⟩,
  ⟨.move (.tmp 0), (some 5), none⟩,
  ⟨.bu .real [(.tmp 5)], (some 6), none⟩,
  ⟨.bin .mul (.tmp 4) (.tmp 6), (some 7), none⟩,
  ⟨.move (.tmp 0), (some 8), none⟩,
  ⟨.bu .imag [(.tmp 8)], (some 9), none⟩,
  ⟨.move (.tmp 0), (some 10), none⟩,
  ⟨.bu .imag [(.tmp 10)], (some 11), none⟩,
  ⟨.bin .mul (.tmp 9) (.tmp 11), (some 12), none⟩,
  ⟨.bin .add (.tmp 7) (.tmp 12), (some 13), none⟩,
  ⟨.move (.tmp 13), (some 2), none⟩]
def ir59 : AFn := ⟨14, [.tmp 2], (.seq (.ops o59_0) (.seq (.ops o59_1) .ret))⟩
theorem ir59_eq : fnsOf Tryz.prog 59 = some ir59 := by kernel_rfl

/-! F60 lookout/cfar.Line -/
def o60_0 : List AOper := [⟨.move (.const (.slice none 0 0)), (some 12), none⟩,
  ⟨.move (.const (.int .i64 0)), (some 13), none⟩]
def o60_1 : List AOper := [⟨.move (.tmp 0), (some 20), none⟩,
  ⟨.move (.tmp 1), (some 21), none⟩,
  ⟨.move (.tmp 2), (some 22), none⟩,
  ⟨.move (.tmp 3), (some 23), none⟩,
  ⟨.move (.tmp 4), (some 24), none⟩,
  ⟨.call (.func 93) [(.tmp 20), (.tmp 21), (.tmp 22), (.tmp 23), (.tmp 24)], (some 25), none⟩,
  ⟨.move (.tmp 25), (some 19), none⟩,
  ⟨.extract (.tmp 19) 0, (some 26), none⟩,
  ⟨.extract (.tmp 19) 1, (some 27), none⟩,
  ⟨.alloc 145 [.nilFunc, (.int .i64 0), (.int .i64 0), (.int .i64 0)], (some 14), none⟩,
  ⟨.store 4 (.tmp 14) (.tmp 26), none, none⟩,
  ⟨.move (.tmp 27), (some 15), none⟩]
def o60_2 : List AOper := [⟨.move (.tmp 15), (some 28), none⟩,
  ⟨.bin .neq (.tmp 28) (.const (.int .i64 0)), (some 29), none⟩]
def o60_3 : List AOper := [⟨.move (.tmp 15), (some 30), none⟩,
  ⟨.move (.const (.slice none 0 0)), (some 12), none⟩,
  ⟨.move (.tmp 30), (some 13), none⟩]
def o60_4 : List AOper := [⟨.move (.tmp 5), (some 31), none⟩,
  ⟨.move (.tmp 5), (some 32), none⟩,
  ⟨.bin .sub (.tmp 31) (.tmp 32), (some 33), none⟩,
  ⟨.bin .neq (.tmp 33) (.const (.float .f64 0)), (some 34), none⟩]
def o60_5 : List AOper := [⟨.move (.const (.slice none 0 0)), (some 12), none⟩,
  ⟨.move (.const (.int .i64 6)), (some 13), none⟩]
def o60_6 : List AOper := [⟨.move (.tmp 0), (some 35), none⟩,
  ⟨.bu .len [(.tmp 35)], (some 36), none⟩,
  ⟨.makeSlice 4 1 1 [(.bool false)] (.tmp 36) (.tmp 36), (some 37), none⟩,
  ⟨.move (.tmp 37), (some 16), none⟩]
def o60_7 : List AOper := [⟨.move (.tmp 0), (some 38), none⟩,
  ⟨.bu .len [(.tmp 38)], (some 39), none⟩,
  ⟨.move (.const (.int .i64 0)), (some 40), none⟩]
def o60_9 : List AOper := [⟨.bin .lss (.tmp 40) (.tmp 39), (some 41), none⟩]
def o60_10 : List AOper := [⟨.move (.tmp 40), (some 42), none⟩,
  ⟨.addrSl 1 (.tmp 38) (.tmp 40), (some 43), none⟩,
  ⟨.load none (.tmp 43), (some 44), none⟩,
  ⟨.move (.tmp 42), (some 17), none⟩,
  ⟨.move (.tmp 44), (some 18), none⟩]
def o60_11 : List AOper := [⟨.move (.tmp 16), (some 45), none⟩,
  ⟨.move (.tmp 17), (some 46), none⟩,
  ⟨.move (.tmp 18), (some 47), none⟩,
  ⟨.load (some 4) (.tmp 14), (some 48), none⟩,
  ⟨.move (.tmp 0), (some 49), none⟩,
  ⟨.move (.tmp 17), (some 50), none⟩,
  ⟨.call (.func 94) [(.tmp 48), (.tmp 49), (.tmp 50)], (some 51), none⟩,
  ⟨.move (.tmp 5), (some 52), none⟩,
  ⟨.bin .mul (.tmp 51) (.tmp 52), (some 53), none⟩,
  ⟨.bin .gtr (.tmp 47) (.tmp 53), (some 54), none⟩,
  ⟨.addrSl 1 (.tmp 45) (.tmp 46), (some 55), none⟩,
  ⟨.store 1 (.tmp 55) (.tmp 54), none, none⟩]
def o60_12 : List AOper := [⟨.bin .add (.tmp 40) (.const (.int .i64 1)), (some 56), none⟩,
  ⟨.move (.tmp 56), (some 40), none⟩]
def b60_8 : ACode := (.seq (.ops o60_9) (.seq (.cond (.tmp 41) .skip (.exit 0)) (.seq (.block 1 (.seq (.ops o60_10) (.ops o60_11))) (.ops o60_12))))
def o60_13 : List AOper := [⟨.move (.tmp 16), (some 57), none⟩,
  ⟨.move (.tmp 57), (some 12), none⟩,
  ⟨.move (.const (.int .i64 0)), (some 13), none⟩]
def ir60 : AFn := ⟨58, [.tmp 12, .tmp 13], (.seq (.ops o60_0) (.seq (.ops o60_1) (.seq (.seq (.ops o60_2) (.cond (.tmp 29) (.seq (.ops o60_3) .ret) .skip)) (.seq (.seq (.ops o60_4) (.cond (.tmp 34) (.seq (.ops o60_5) .ret) .skip)) (.seq (.ops o60_6) (.seq (.seq (.ops o60_7) (.block 0 (.loop b60_8))) (.seq (.ops o60_13) .ret)))))))⟩
theorem ir60_eq : fnsOf Tryz.prog 60 = some ir60 := by kernel_rfl

/-! F61 lookout/peaks.about -/
def o61_0 : List AOper := [⟨.box 112 (.tmp 0), (some 3), none⟩]
def d61_1 : List DOper := [⟨⟨.fieldAddr 0 (.tmp 3), (some 15), none⟩, 0⟩,
  ⟨⟨.load none (.tmp 15), (some 16), none⟩, 1⟩,
  ⟨⟨.bin .sub (.tmp 16) (.const (.int .i64 1)), (some 17), none⟩, 3⟩,
  ⟨⟨.fieldAddr 0 (.tmp 3), (some 18), none⟩, 0⟩,
  ⟨⟨.load none (.tmp 18), (some 19), none⟩, 8⟩,
  ⟨⟨.bin .add (.tmp 19) (.const (.int .i64 1)), (some 20), none⟩, 24⟩,
  ⟨⟨.move (.tmp 17), (some 6), none⟩, 7⟩,
  ⟨⟨.move (.tmp 20), (some 7), none⟩, 127⟩]
def o61_2 : List AOper := [⟨.fieldAddr 0 (.tmp 3), (some 21), none⟩,
  ⟨.load none (.tmp 21), (some 22), none⟩,
  ⟨.bin .eql (.tmp 22) (.const (.int .i64 0)), (some 23), none⟩]
def o61_3 : List AOper := [⟨.move (.tmp 1), (some 24), none⟩,
  ⟨.bin .sub (.tmp 24) (.const (.int .i64 1)), (some 25), none⟩,
  ⟨.move (.tmp 25), (some 6), none⟩]
def o61_4 : List AOper := [⟨.fieldAddr 0 (.tmp 3), (some 26), none⟩,
  ⟨.load none (.tmp 26), (some 27), none⟩,
  ⟨.move (.tmp 1), (some 28), none⟩,
  ⟨.bin .sub (.tmp 28) (.const (.int .i64 1)), (some 29), none⟩,
  ⟨.bin .eql (.tmp 27) (.tmp 29), (some 30), none⟩]
def o61_5 : List AOper := [⟨.move (.const (.int .i64 0)), (some 7), none⟩]
def o61_6 : List AOper := [⟨.fieldAddr 0 (.tmp 3), (some 31), none⟩,
  ⟨.load none (.tmp 31), (some 32), none⟩,
  ⟨.build [(.int .i64 0), (.int .i64 0), (.int .i64 0)] [(0, 1, (.tmp 32)), (1, 1, (.const (.int .i64 (-1)))), (2, 1, (.const (.int .i64 (-1))))], (some 33), none⟩,
  ⟨.alloc 149 [(.int .i64 0), (.int .i64 0), (.int .i64 0)], (some 8), none⟩,
  ⟨.store 3 (.tmp 8) (.tmp 33), none, none⟩]
def o61_7 : List AOper := [⟨.move (.const (.int .i64 1)), (some 9), none⟩]
def o61_8 : List AOper := [⟨.move (.tmp 6), (some 34), none⟩,
  ⟨.move (.tmp 7), (some 35), none⟩,
  ⟨.build [(.int .i64 0), (.int .i64 0)] [(0, 1, (.tmp 34)), (1, 1, (.tmp 35))], (some 36), none⟩,
  ⟨.move (.const (.int .i64 0)), (some 37), none⟩]
def o61_10 : List AOper := [⟨.bin .lss (.tmp 37) (.const (.int .i64 2)), (some 38), none⟩]
def o61_11 : List AOper := [⟨.idxArr 2 1 false (.tmp 36) (.tmp 37), (some 39), none⟩,
  ⟨.move (.tmp 39), (some 11), none⟩]
def o61_12 : List AOper := [⟨.move (.tmp 9), (some 40), none⟩,
  ⟨.slArr 3 1 (.tmp 8) none (some (.tmp 40)) none, (some 41), none⟩,
  ⟨.move (.tmp 11), (some 42), none⟩,
  ⟨.call (.func 95) [(.tmp 41), (.tmp 42)], (some 43), none⟩,
  ⟨.un .not (.tmp 43), (some 44), none⟩]
def o61_13 : List AOper := [⟨.move (.tmp 9), (some 45), none⟩,
  ⟨.move (.tmp 11), (some 46), none⟩,
  ⟨.addrArr 3 1 (.tmp 8) (.tmp 45), (some 47), none⟩,
  ⟨.store 1 (.tmp 47) (.tmp 46), none, none⟩]
def o61_14 : List AOper := [⟨.move (.tmp 9), (some 48), none⟩,
  ⟨.bin .add (.tmp 48) (.const (.int .i64 1)), (some 49), none⟩,
  ⟨.move (.tmp 49), (some 9), none⟩]
def o61_15 : List AOper := [⟨.bin .add (.tmp 37) (.const (.int .i64 1)), (some 50), none⟩,
  ⟨.move (.tmp 50), (some 37), none⟩]
def b61_9 : ACode := (.seq (.ops o61_10) (.seq (.cond (.tmp 38) .skip (.exit 0)) (.seq (.block 1 (.seq (.ops o61_11) (.seq (.ops o61_12) (.cond (.tmp 44) (.seq (.ops o61_13) (.ops o61_14)) .skip)))) (.ops o61_15))))
def o61_16 : List AOper := [⟨.move (.tmp 9), (some 51), none⟩,
  ⟨.slArr 3 1 (.tmp 8) none (some (.tmp 51)) none, (some 52), none⟩,
  ⟨.bu .len [(.tmp 52)], (some 53), none⟩,
  ⟨.move (.const (.int .i64 0)), (some 54), none⟩]
def o61_18 : List AOper := [⟨.bin .lss (.tmp 54) (.tmp 53), (some 55), none⟩]
def o61_19 : List AOper := [⟨.addrSl 1 (.tmp 52) (.tmp 54), (some 56), none⟩,
  ⟨.load none (.tmp 56), (some 57), none⟩,
  ⟨.move (.tmp 57), (some 13), none⟩]
def o61_20 : List AOper := [⟨.move (.const (.int .i64 (-1))), (some 14), none⟩]
def o61_22 : List AOper := [⟨.move (.tmp 14), (some 58), none⟩,
  ⟨.bin .leq (.tmp 58) (.const (.int .i64 1)), (some 59), none⟩]
def o61_23 : List AOper := [⟨.move (.tmp 13), (some 62), none⟩,
  ⟨.fieldAddr 0 (.tmp 3), (some 63), none⟩,
  ⟨.load none (.tmp 63), (some 64), none⟩,
  ⟨.bin .neq (.tmp 62) (.tmp 64), (some 65), none⟩,
  ⟨.move (.tmp 65), (some 66), none⟩,
  ⟨.move (.tmp 14), (some 67), (some (66, false))⟩,
  ⟨.bin .neq (.tmp 67) (.const (.int .i64 0)), (some 68), (some (66, false))⟩,
  ⟨.pick (.tmp 66) (.const (.bool true)) (.tmp 68), (some 69), none⟩]
def o61_24 : List AOper := [⟨.move (.tmp 2), (some 70), none⟩,
  ⟨.move (.tmp 13), (some 71), none⟩,
  ⟨.fieldAddr 1 (.tmp 3), (some 72), none⟩,
  ⟨.load none (.tmp 72), (some 73), none⟩,
  ⟨.move (.tmp 14), (some 74), none⟩,
  ⟨.bin .add (.tmp 73) (.tmp 74), (some 75), none⟩,
  ⟨.build [(.int .i64 0), (.int .i64 0)] [(0, 1, (.tmp 71)), (1, 1, (.tmp 75))], (some 76), none⟩,
  ⟨.call (.tmp 70) [(.tmp 76)], (some 77), none⟩]
def o61_25 : List AOper := [⟨.move (.tmp 14), (some 60), none⟩,
  ⟨.bin .add (.tmp 60) (.const (.int .i64 1)), (some 61), none⟩,
  ⟨.move (.tmp 61), (some 14), none⟩]
def b61_21 : ACode := (.seq (.seq (.ops o61_22) (.cond (.tmp 59) .skip (.exit 4))) (.seq (.block 5 (.seq (.ops o61_23) (.cond (.tmp 69) (.ops o61_24) .skip))) (.ops o61_25)))
def o61_26 : List AOper := [⟨.bin .add (.tmp 54) (.const (.int .i64 1)), (some 78), none⟩,
  ⟨.move (.tmp 78), (some 54), none⟩]
def b61_17 : ACode := (.seq (.ops o61_18) (.seq (.cond (.tmp 55) .skip (.exit 2)) (.seq (.block 3 (.seq (.ops o61_19) (.seq (.ops o61_20) (.block 4 (.loop b61_21))))) (.ops o61_26))))
def ir61 : AFn := ⟨79, [], (.seq (.ops o61_0) (.seq (.draw d61_1) (.seq (.seq (.ops o61_2) (.cond (.tmp 23) (.ops o61_3) .skip)) (.seq (.seq (.ops o61_4) (.cond (.tmp 30) (.ops o61_5) .skip)) (.seq (.ops o61_6) (.seq (.ops o61_7) (.seq (.seq (.ops o61_8) (.block 0 (.loop b61_9))) (.seq (.ops o61_16) (.block 2 (.loop b61_17))))))))))⟩
theorem ir61_eq : fnsOf Tryz.prog 61 = some ir61 := by kernel_rfl

/-! F62 lookout/peaks.Groups$1 -/
def o62_0 : List AOper := [⟨.box 112 (.tmp 0), (some 4), none⟩]
def o62_1 : List AOper := [⟨.load none (.tmp 1), (some 6), none⟩,
  ⟨.load (some 2) (.tmp 4), (some 7), none⟩,
  ⟨.lookup (.struct [(0, none, .int), (1, none, .int)]) (.int .i64 0) false (.tmp 6) (.tmp 7), (some 8), none⟩,
  ⟨.move (.tmp 8), (some 5), none⟩]
def o62_2 : List AOper := [⟨.move (.tmp 5), (some 9), none⟩,
  ⟨.bin .gtr (.tmp 9) (.const (.int .i64 0)), (some 10), none⟩]
def d62_3 : List DOper := [⟨⟨.load none (.tmp 2), (some 11), none⟩, 0⟩,
  ⟨⟨.load none (.tmp 3), (some 12), none⟩, 0⟩,
  ⟨⟨.move (.tmp 5), (some 13), none⟩, 0⟩,
  ⟨⟨.bin .sub (.tmp 13) (.const (.int .i64 1)), (some 14), none⟩, 4⟩,
  ⟨⟨.addrSl 3 (.tmp 12) (.tmp 14), (some 15), none⟩, 14⟩,
  ⟨⟨.load (some 3) (.tmp 15), (some 16), none⟩, 30⟩,
  ⟨⟨.buildSlice 109 3 [(.int .i64 0), (.int .i64 0), (.float .f64 0)] 1 [(0, (.tmp 16))], (some 17), none⟩, 62⟩,
  ⟨⟨.append 109 24 3 [(.int .i64 0), (.int .i64 0), (.float .f64 0)] (.tmp 11) (.tmp 17), (some 18), none⟩, 127⟩,
  ⟨⟨.store 1 (.tmp 2) (.tmp 18), none, none⟩, 255⟩]
def o62_4 : List AOper := [⟨.load none (.tmp 1), (some 19), none⟩,
  ⟨.load (some 2) (.tmp 4), (some 20), none⟩,
  ⟨.mapDel (.struct [(0, none, .int), (1, none, .int)]) (.tmp 19) (.tmp 20), none, none⟩]
def ir62 : AFn := ⟨21, [], (.seq (.ops o62_0) (.seq (.ops o62_1) (.seq (.ops o62_2) (.cond (.tmp 10) (.seq (.draw d62_3) (.ops o62_4)) .skip))))⟩
theorem ir62_eq : fnsOf Tryz.prog 62 = some ir62 := by kernel_rfl

/-! F63 slices.SortFunc[[]lookout/api.Spot,lookout/api.Spot] -/
def o63_0 : List AOper := [⟨.move (.tmp 0), (some 5), none⟩,
  ⟨.bu .len [(.tmp 5)], (some 6), none⟩,
  ⟨.move (.tmp 6), (some 4), none⟩]
def o63_1 : List AOper := [⟨.move (.tmp 0), (some 7), none⟩,
  ⟨.move (.tmp 4), (some 8), none⟩,
  ⟨.move (.tmp 4), (some 9), none⟩,
  ⟨.conv (.toInt .u64) (.tmp 9), (some 10), none⟩,
  ⟨.call (.func 97) [(.tmp 10)], (some 11), none⟩,
  ⟨.move (.tmp 1), (some 12), none⟩,
  ⟨.call (.func 96) [(.tmp 7), (.const (.int .i64 0)), (.tmp 8), (.tmp 11), (.tmp 12)], (some 13), none⟩]
def ir63 : AFn := ⟨14, [], (.seq (.ops o63_0) (.ops o63_1))⟩
theorem ir63_eq : fnsOf Tryz.prog 63 = some ir63 := by kernel_rfl

/-! F65 slices.SortFunc[[][]lookout/api.Spot,[]lookout/api.Spot] -/
def o65_0 : List AOper := [⟨.move (.tmp 0), (some 5), none⟩,
  ⟨.bu .len [(.tmp 5)], (some 6), none⟩,
  ⟨.move (.tmp 6), (some 4), none⟩]
def o65_1 : List AOper := [⟨.move (.tmp 0), (some 7), none⟩,
  ⟨.move (.tmp 4), (some 8), none⟩,
  ⟨.move (.tmp 4), (some 9), none⟩,
  ⟨.conv (.toInt .u64) (.tmp 9), (some 10), none⟩,
  ⟨.call (.func 97) [(.tmp 10)], (some 11), none⟩,
  ⟨.move (.tmp 1), (some 12), none⟩,
  ⟨.call (.func 98) [(.tmp 7), (.const (.int .i64 0)), (.tmp 8), (.tmp 11), (.tmp 12)], (some 13), none⟩]
def ir65 : AFn := ⟨14, [], (.seq (.ops o65_0) (.ops o65_1))⟩
theorem ir65_eq : fnsOf Tryz.prog 65 = some ir65 := by kernel_rfl

/-! F67 lookout/plots.finite -/
def o67_0 : List AOper := [⟨.move (.const (.bool false)), (some 2), none⟩]
def o67_1 : List AOper := [⟨.move (.tmp 0), (some 3), none⟩,
  ⟨.call (.func 99) [(.tmp 3), (.func 100)], (some 4), none⟩,
  ⟨.un .not (.tmp 4), (some 5), none⟩,
  ⟨.move (.tmp 5), (some 2), none⟩]
def ir67 : AFn := ⟨6, [.tmp 2], (.seq (.ops o67_0) (.seq (.ops o67_1) .ret))⟩
theorem ir67_eq : fnsOf Tryz.prog 67 = some ir67 := by kernel_rfl

/-! F68 lookout/gate.Speed -/
def o68_0 : List AOper := [⟨.box 24 (.tmp 0), (some 2), none⟩,
  ⟨.move (.const (.float .f64 0)), (some 4), none⟩,
  ⟨.move (.const (.int .i64 0)), (some 5), none⟩]
def o68_1 : List AOper := [⟨.load (some 5) (.tmp 2), (some 7), none⟩,
  ⟨.move (.tmp 1), (some 8), none⟩,
  ⟨.call (.func 101) [(.tmp 7), (.tmp 8)], (some 9), none⟩,
  ⟨.move (.tmp 9), (some 6), none⟩]
def o68_2 : List AOper := [⟨.move (.tmp 6), (some 10), none⟩,
  ⟨.bin .neq (.tmp 10) (.const (.int .i64 0)), (some 11), none⟩]
def o68_3 : List AOper := [⟨.move (.tmp 6), (some 12), none⟩,
  ⟨.move (.const (.float .f64 0)), (some 4), none⟩,
  ⟨.move (.tmp 12), (some 5), none⟩]
def d68_4 : List DOper := [⟨⟨.move (.tmp 1), (some 13), none⟩, 0⟩,
  ⟨⟨.fieldAddr 4 (.tmp 2), (some 14), none⟩, 0⟩,
  ⟨⟨.load none (.tmp 14), (some 15), none⟩, 2⟩,
  ⟨⟨.conv (.toFloat .f64) (.tmp 15), (some 16), none⟩, 6⟩,
  ⟨⟨.bin .quo (.tmp 13) (.tmp 16), (some 17), none⟩, 15⟩,
  ⟨⟨.fieldAddr 1 (.tmp 2), (some 18), none⟩, 0⟩,
  ⟨⟨.load none (.tmp 18), (some 19), none⟩, 32⟩,
  ⟨⟨.bin .mul (.tmp 17) (.tmp 19), (some 20), none⟩, 127⟩,
  ⟨⟨.load (some 5) (.tmp 2), (some 21), none⟩, 0⟩,
  ⟨⟨.call (.func 103) [(.tmp 21)], (some 22), none⟩, 256⟩,
  ⟨⟨.bin .mul (.const (.float .f64 4611686018427387904)) (.tmp 22), (some 23), none⟩, 768⟩,
  ⟨⟨.bin .quo (.tmp 20) (.tmp 23), (some 24), none⟩, 2047⟩,
  ⟨⟨.un .neg (.tmp 24), (some 25), none⟩, 4095⟩,
  ⟨⟨.call (.func 102) [(.tmp 25)], (some 26), none⟩, 8191⟩,
  ⟨⟨.extract (.tmp 26) 0, (some 27), none⟩, 16383⟩,
  ⟨⟨.extract (.tmp 26) 1, (some 28), none⟩, 16383⟩,
  ⟨⟨.move (.tmp 27), (some 4), none⟩, 65535⟩,
  ⟨⟨.move (.tmp 28), (some 5), none⟩, 131071⟩]
def ir68 : AFn := ⟨29, [.tmp 4, .tmp 5], (.seq (.ops o68_0) (.seq (.seq (.ops o68_1) (.seq (.ops o68_2) (.cond (.tmp 11) (.seq (.ops o68_3) .ret) .skip))) (.seq (.draw d68_4) .ret)))⟩
theorem ir68_eq : fnsOf Tryz.prog 68 = some ir68 := by kernel_rfl

/-! F69 lookout/peaks.within -/
def o69_0 : List AOper := [⟨.move (.const (.int .i64 0)), (some 6), none⟩]
def o69_1 : List AOper := [⟨.move (.tmp 0), (some 7), none⟩,
  ⟨.move (.tmp 1), (some 8), none⟩,
  ⟨.bu .max [(.tmp 7), (.tmp 8)], (some 9), none⟩,
  ⟨.move (.tmp 2), (some 10), none⟩,
  ⟨.bu .min [(.tmp 9), (.tmp 10)], (some 11), none⟩,
  ⟨.move (.tmp 11), (some 6), none⟩]
def ir69 : AFn := ⟨12, [.tmp 6], (.seq (.ops o69_0) (.seq (.ops o69_1) .ret))⟩
theorem ir69_eq : fnsOf Tryz.prog 69 = some ir69 := by kernel_rfl

/-! F70 lookout/plots.ordered[lookout/api.Plot] -/
def o70_0 : List AOper := [⟨.box 52 (.tmp 0), (some 2), none⟩,
  ⟨.box 124 (.tmp 1), (some 3), none⟩,
  ⟨.move (.const (.slice none 0 0)), (some 4), none⟩]
def o70_1 : List AOper := [⟨.load none (.tmp 2), (some 7), none⟩,
  ⟨.bu .len [(.tmp 7)], (some 8), none⟩,
  ⟨.makeSlice 3 8 1 [(.int .i64 0)] (.tmp 8) (.tmp 8), (some 9), none⟩,
  ⟨.move (.tmp 9), (some 5), none⟩]
def o70_2 : List AOper := [⟨.move (.tmp 5), (some 10), none⟩,
  ⟨.bu .len [(.tmp 10)], (some 11), none⟩,
  ⟨.move (.const (.int .i64 0)), (some 12), none⟩]
def o70_4 : List AOper := [⟨.bin .lss (.tmp 12) (.tmp 11), (some 13), none⟩]
def o70_5 : List AOper := [⟨.move (.tmp 12), (some 14), none⟩,
  ⟨.move (.tmp 14), (some 6), none⟩]
def o70_6 : List AOper := [⟨.move (.tmp 5), (some 15), none⟩,
  ⟨.move (.tmp 6), (some 16), none⟩,
  ⟨.move (.tmp 6), (some 17), none⟩,
  ⟨.addrSl 1 (.tmp 15) (.tmp 16), (some 18), none⟩,
  ⟨.store 1 (.tmp 18) (.tmp 17), none, none⟩]
def o70_7 : List AOper := [⟨.bin .add (.tmp 12) (.const (.int .i64 1)), (some 19), none⟩,
  ⟨.move (.tmp 19), (some 12), none⟩]
def b70_3 : ACode := (.seq (.ops o70_4) (.seq (.cond (.tmp 13) .skip (.exit 0)) (.seq (.block 1 (.seq (.ops o70_5) (.ops o70_6))) (.ops o70_7))))
def o70_8 : List AOper := [⟨.move (.tmp 5), (some 20), none⟩,
  ⟨.mkFunc (.func 105) [] [(.tmp 3), (.tmp 2)], (some 21), none⟩,
  ⟨.call (.func 104) [(.tmp 20), (.tmp 21)], (some 22), none⟩]
def o70_9 : List AOper := [⟨.move (.tmp 5), (some 23), none⟩,
  ⟨.move (.tmp 23), (some 4), none⟩]
def ir70 : AFn := ⟨24, [.tmp 4], (.seq (.ops o70_0) (.seq (.ops o70_1) (.seq (.seq (.ops o70_2) (.block 0 (.loop b70_3))) (.seq (.ops o70_8) (.seq (.ops o70_9) .ret)))))⟩
theorem ir70_eq : fnsOf Tryz.prog 70 = some ir70 := by kernel_rfl

/-! F81 lookout/scene.adder$1 -/
def o81_0 : List AOper := [⟨.box 46 (.tmp 0), (some 5), none⟩]
def o81_1 : List AOper := [⟨.fieldAddr 4 (.tmp 1), (some 13), none⟩,
  ⟨.load none (.tmp 13), (some 14), none⟩,
  ⟨.move (.const (.int .i64 0)), (some 15), none⟩]
def o81_3 : List AOper := [⟨.bin .lss (.tmp 15) (.tmp 14), (some 16), none⟩]
def o81_4 : List AOper := [⟨.move (.tmp 15), (some 17), none⟩,
  ⟨.move (.tmp 17), (some 6), none⟩]
def o81_5 : List AOper := [⟨.move (.tmp 6), (some 18), none⟩,
  ⟨.fieldAddr 3 (.tmp 1), (some 19), none⟩,
  ⟨.load none (.tmp 19), (some 20), none⟩,
  ⟨.bin .mul (.tmp 18) (.tmp 20), (some 21), none⟩,
  ⟨.move (.tmp 21), (some 7), none⟩]
def o81_6 : List AOper := [⟨.load (some 5) (.tmp 5), (some 22), none⟩,
  ⟨.load none (.tmp 2), (some 23), none⟩,
  ⟨.move (.tmp 7), (some 24), none⟩,
  ⟨.conv (.toFloat .f64) (.tmp 24), (some 25), none⟩,
  ⟨.fieldAddr 2 (.tmp 1), (some 26), none⟩,
  ⟨.load none (.tmp 26), (some 27), none⟩,
  ⟨.bin .quo (.tmp 25) (.tmp 27), (some 28), none⟩,
  ⟨.bin .add (.tmp 23) (.tmp 28), (some 29), none⟩,
  ⟨.call (.func 82) [(.tmp 22), (.tmp 29)], (some 30), none⟩,
  ⟨.move (.tmp 30), (some 8), none⟩]
def o81_7 : List AOper := [⟨.move (.tmp 8), (some 31), none⟩,
  ⟨.fieldAddr 0 (.tmp 1), (some 32), none⟩,
  ⟨.load none (.tmp 32), (some 33), none⟩,
  ⟨.bin .quo (.tmp 31) (.tmp 33), (some 34), none⟩,
  ⟨.call (.func 83) [(.tmp 34)], (some 35), none⟩,
  ⟨.move (.tmp 35), (some 9), none⟩]
def o81_8 : List AOper := [⟨.move (.tmp 8), (some 36), none⟩,
  ⟨.buildSlice 22 1 [(.float .f64 0)] 1 [(0, (.tmp 36))], (some 37), none⟩,
  ⟨.call (.func 47) [(.tmp 37)], (some 38), none⟩,
  ⟨.un .not (.tmp 38), (some 39), none⟩,
  ⟨.move (.tmp 39), (some 40), none⟩,
  ⟨.move (.tmp 9), (some 41), (some (40, false))⟩,
  ⟨.bin .geq (.tmp 41) (.const (.float .f64 0)), (some 42), (some (40, false))⟩,
  ⟨.move (.tmp 42), (some 43), (some (40, false))⟩,
  ⟨.move (.tmp 9), (some 44), (some (43, true))⟩,
  ⟨.bin .leq (.tmp 44) (.const (.float .f64 4742290407621132288)), (some 45), (some (43, true))⟩,
  ⟨.pick (.tmp 43) (.tmp 45) (.const (.bool false)), (some 46), (some (40, false))⟩,
  ⟨.un .not (.tmp 46), (some 47), (some (40, false))⟩,
  ⟨.pick (.tmp 40) (.const (.bool true)) (.tmp 47), (some 48), none⟩]
def d81_9 : List DOper := [⟨⟨.fieldAddr 3 (.tmp 5), (some 49), none⟩, 0⟩,
  ⟨⟨.load none (.tmp 49), (some 50), none⟩, 1⟩,
  ⟨⟨.move (.tmp 8), (some 51), none⟩, 0⟩,
  ⟨⟨.bin .mul (.const (.float .f64 4611686018427387904)) (.tmp 51), (some 52), none⟩, 4⟩,
  ⟨⟨.fieldAddr 1 (.tmp 1), (some 53), none⟩, 0⟩,
  ⟨⟨.load none (.tmp 53), (some 54), none⟩, 16⟩,
  ⟨⟨.bin .quo (.tmp 52) (.tmp 54), (some 55), none⟩, 60⟩,
  ⟨⟨.bin .sub (.tmp 50) (.tmp 55), (some 56), none⟩, 127⟩,
  ⟨⟨.call (.func 40) [(.tmp 56)], (some 57), none⟩, 255⟩,
  ⟨⟨.fieldAddr 2 (.tmp 5), (some 58), none⟩, 0⟩,
  ⟨⟨.load none (.tmp 58), (some 59), none⟩, 512⟩,
  ⟨⟨.call (.func 84) [(.tmp 57), (.tmp 59)], (some 60), none⟩, 2047⟩,
  ⟨⟨.move (.tmp 60), (some 10), none⟩, 4095⟩]
def o81_10 : List AOper := [⟨.move (.tmp 7), (some 61), none⟩,
  ⟨.move (.tmp 9), (some 62), none⟩,
  ⟨.conv (.toInt .i64) (.tmp 62), (some 63), none⟩,
  ⟨.bin .add (.tmp 61) (.tmp 63), (some 64), none⟩,
  ⟨.move (.tmp 64), (some 11), none⟩]
def o81_11 : List AOper := [⟨.load none (.tmp 3), (some 65), none⟩,
  ⟨.bu .len [(.tmp 65)], (some 66), none⟩,
  ⟨.load none (.tmp 4), (some 67), none⟩,
  ⟨.bu .len [(.tmp 67)], (some 68), none⟩,
  ⟨.move (.tmp 11), (some 69), none⟩,
  ⟨.bin .sub (.tmp 68) (.tmp 69), (some 70), none⟩,
  ⟨.bu .max [(.const (.int .i64 0)), (.tmp 70)], (some 71), none⟩,
  ⟨.bu .min [(.tmp 66), (.tmp 71)], (some 72), none⟩,
  ⟨.move (.const (.int .i64 0)), (some 73), none⟩]
def o81_13 : List AOper := [⟨.bin .lss (.tmp 73) (.tmp 72), (some 74), none⟩]
def o81_14 : List AOper := [⟨.move (.tmp 73), (some 75), none⟩,
  ⟨.move (.tmp 75), (some 12), none⟩]
def d81_15 : List DOper := [⟨⟨.load none (.tmp 4), (some 76), none⟩, 0⟩,
  ⟨⟨.move (.tmp 11), (some 77), none⟩, 0⟩,
  ⟨⟨.move (.tmp 12), (some 78), none⟩, 0⟩,
  ⟨⟨.bin .add (.tmp 77) (.tmp 78), (some 79), none⟩, 6⟩,
  ⟨⟨.addrSl 1 (.tmp 76) (.tmp 79), (some 80), none⟩, 15⟩,
  ⟨⟨.load none (.tmp 80), (some 81), none⟩, 31⟩,
  ⟨⟨.move (.tmp 10), (some 82), none⟩, 0⟩,
  ⟨⟨.load none (.tmp 3), (some 83), none⟩, 0⟩,
  ⟨⟨.move (.tmp 12), (some 84), none⟩, 0⟩,
  ⟨⟨.addrSl 1 (.tmp 83) (.tmp 84), (some 85), none⟩, 384⟩,
  ⟨⟨.load none (.tmp 85), (some 86), none⟩, 896⟩,
  ⟨⟨.call (.func 85) [(.tmp 82), (.tmp 86)], (some 87), none⟩, 1984⟩,
  ⟨⟨.bin .add (.tmp 81) (.tmp 87), (some 88), none⟩, 4095⟩,
  ⟨⟨.addrSl 1 (.tmp 76) (.tmp 79), (some 89), none⟩, 8191⟩,
  ⟨⟨.store 1 (.tmp 89) (.tmp 88), none, none⟩, 16383⟩]
def o81_16 : List AOper := [⟨.bin .add (.tmp 73) (.const (.int .i64 1)), (some 90), none⟩,
  ⟨.move (.tmp 90), (some 73), none⟩]
def b81_12 : ACode := (.seq (.ops o81_13) (.seq (.cond (.tmp 74) .skip (.exit 2)) (.seq (.block 3 (.seq (.ops o81_14) (.draw d81_15))) (.ops o81_16))))
def o81_17 : List AOper := [⟨.bin .add (.tmp 15) (.const (.int .i64 1)), (some 91), none⟩,
  ⟨.move (.tmp 91), (some 15), none⟩]
def b81_2 : ACode := (.seq (.ops o81_3) (.seq (.cond (.tmp 16) .skip (.exit 0)) (.seq (.block 1 (.seq (.ops o81_4) (.seq (.ops o81_5) (.seq (.ops o81_6) (.seq (.ops o81_7) (.seq (.seq (.ops o81_8) (.cond (.tmp 48) (.exit 1) .skip)) (.seq (.draw d81_9) (.seq (.ops o81_10) (.seq (.ops o81_11) (.block 2 (.loop b81_12))))))))))) (.ops o81_17))))
def ir81 : AFn := ⟨92, [], (.seq (.ops o81_0) (.seq (.ops o81_1) (.block 0 (.loop b81_2))))⟩
theorem ir81_eq : fnsOf Tryz.prog 81 = some ir81 := by kernel_rfl

/-! F82 lookout/scene.At -/
def o82_0 : List AOper := [⟨.box 46 (.tmp 0), (some 2), none⟩,
  ⟨.move (.const (.float .f64 0)), (some 4), none⟩]
def o82_1 : List AOper := [⟨.fieldAddr 0 (.tmp 2), (some 5), none⟩,
  ⟨.load none (.tmp 5), (some 6), none⟩,
  ⟨.fieldAddr 1 (.tmp 2), (some 7), none⟩,
  ⟨.load none (.tmp 7), (some 8), none⟩,
  ⟨.move (.tmp 1), (some 9), none⟩,
  ⟨.bin .mul (.tmp 8) (.tmp 9), (some 10), none⟩,
  ⟨.bin .add (.tmp 6) (.tmp 10), (some 11), none⟩,
  ⟨.move (.tmp 11), (some 4), none⟩]
def ir82 : AFn := ⟨12, [.tmp 4], (.seq (.ops o82_0) (.seq (.ops o82_1) .ret))⟩
theorem ir82_eq : fnsOf Tryz.prog 82 = some ir82 := by kernel_rfl

/-! F83 math.Floor -/
def o83_0 : List AOper := [⟨.move (.const (.float .f64 0)), (some 2), none⟩]
def o83_1 : List AOper := [⟨.move (.tmp 0), (some 3), none⟩,
  ⟨.ext 2 115 [(.tmp 3)], (some 4), none⟩,
  ⟨.move (.tmp 4), (some 2), none⟩]
def o83_2 : List AOper := [⟨.move (.tmp 0), (some 5), none⟩,
  ⟨.call (.func 116) [(.tmp 5)], (some 6), none⟩,
  ⟨.move (.tmp 6), (some 2), none⟩]
def ir83 : AFn := ⟨7, [.tmp 2], (.seq (.ops o83_0) (.seq (.cond (.const (.bool true)) (.seq (.ops o83_1) .ret) .skip) (.seq (.ops o83_2) .ret)))⟩
theorem ir83_eq : fnsOf Tryz.prog 83 = some ir83 := by kernel_rfl

/-! F84 lookout/cplx.Scale -/
def o84_0 : List AOper := [⟨.move (.const (.complex .f64 0 0)), (some 4), none⟩]
def o84_1 : List AOper := [⟨.move (.tmp 0), (some 5), none⟩,
  ⟨.bu .real [(.tmp 5)], (some 6), none⟩,
  ⟨.move (.tmp 1), (some 7), none⟩,
  ⟨.bin .mul (.tmp 6) (.tmp 7), (some 8), none⟩,
  ⟨.move (.tmp 0), (some 9), none⟩,
  ⟨.bu .imag [(.tmp 9)], (some 10), none⟩,
  ⟨.move (.tmp 1), (some 11), none⟩,
  ⟨.bin .mul (.tmp 10) (.tmp 11), (some 12), none⟩,
  ⟨.bu .complex [(.tmp 8), (.tmp 12)], (some 13), none⟩,
  ⟨.move (.tmp 13), (some 4), none⟩]
def ir84 : AFn := ⟨14, [.tmp 4], (.seq (.ops o84_0) (.seq (.ops o84_1) .ret))⟩
theorem ir84_eq : fnsOf Tryz.prog 84 = some ir84 := by kernel_rfl

/-! F85 lookout/cplx.Mul -/
def o85_0 : List AOper := [⟨.move (.const (.complex .f64 0 0)), (some 4), none⟩]
def o85_1 : List AOper := [⟨.move (.tmp 0), (some 7), none⟩,
  ⟨.bu .real [(.tmp 7)], (some 8), none⟩,
  ⟨.move (.tmp 1), (some 9), none⟩,
  ⟨.bu .real [(.tmp 9)], (some 10), none⟩,
  ⟨.bin .mul (.tmp 8) (.tmp 10), (some 11), none⟩,
  ⟨.move (.tmp 0), (some 12), none⟩,
  ⟨.bu .imag [(.tmp 12)], (some 13), none⟩,
  ⟨.move (.tmp 1), (some 14), none⟩,
  ⟨.bu .imag [(.tmp 14)], (some 15), none⟩,
  ⟨.bin .mul (.tmp 13) (.tmp 15), (some 16), none⟩,
  ⟨.bin .sub (.tmp 11) (.tmp 16), (some 17), none⟩,
  ⟨.move (.tmp 17), (some 5), none⟩]
def o85_2 : List AOper := [⟨.move (.tmp 0), (some 18), none⟩,
  ⟨.bu .real [(.tmp 18)], (some 19), none⟩,
  ⟨.move (.tmp 1), (some 20), none⟩,
  ⟨.bu .imag [(.tmp 20)], (some 21), none⟩,
  ⟨.bin .mul (.tmp 19) (.tmp 21), (some 22), none⟩,
  ⟨.move (.tmp 0), (some 23), none⟩,
  ⟨.bu .imag [(.tmp 23)], (some 24), none⟩,
  ⟨.move (.tmp 1), (some 25), none⟩,
  ⟨.bu .real [(.tmp 25)], (some 26), none⟩,
  ⟨.bin .mul (.tmp 24) (.tmp 26), (some 27), none⟩,
  ⟨.bin .add (.tmp 22) (.tmp 27), (some 28), none⟩,
  ⟨.move (.tmp 28), (some 6), none⟩]
def o85_3 : List AOper := [⟨.move (.tmp 5), (some 29), none⟩,
  ⟨.move (.tmp 6), (some 30), none⟩,
  ⟨.bu .complex [(.tmp 29), (.tmp 30)], (some 31), none⟩,
  ⟨.move (.tmp 31), (some 4), none⟩]
def ir85 : AFn := ⟨32, [.tmp 4], (.seq (.ops o85_0) (.seq (.ops o85_1) (.seq (.ops o85_2) (.seq (.ops o85_3) .ret))))⟩
theorem ir85_eq : fnsOf Tryz.prog 85 = some ir85 := by kernel_rfl

/-! F87 (lookout/bank.table).check -/
def o87_0 : List AOper := [⟨.move (.const (.int .i64 0)), (some 4), none⟩]
def o87_1 : List AOper := [⟨.move (.tmp 0), (some 8), none⟩,
  ⟨.call (.func 90) [(.tmp 8)], (some 9), none⟩,
  ⟨.move (.tmp 9), (some 7), none⟩,
  ⟨.extract (.tmp 7) 0, (some 10), none⟩,
  ⟨.extract (.tmp 7) 1, (some 11), none⟩,
  ⟨.move (.tmp 10), (some 5), none⟩,
  ⟨.move (.tmp 11), (some 6), none⟩]
def o87_2 : List AOper := [⟨.move (.tmp 6), (some 13), none⟩,
  ⟨.un .not (.tmp 13), (some 14), none⟩,
  ⟨.move (.tmp 14), (some 12), none⟩]
def o87_3 : List AOper := [⟨.move (.const (.int .i64 5)), (some 4), none⟩]
def o87_4 : List AOper := [⟨.move (.tmp 0), (some 16), none⟩,
  ⟨.bu .len [(.tmp 16)], (some 17), none⟩,
  ⟨.bin .gtr (.tmp 17) (.const (.int .i64 256)), (some 18), none⟩,
  ⟨.move (.tmp 18), (some 19), none⟩,
  ⟨.move (.tmp 5), (some 20), (some (19, false))⟩,
  ⟨.bin .gtr (.tmp 20) (.const (.int .i64 16384)), (some 21), (some (19, false))⟩,
  ⟨.pick (.tmp 19) (.const (.bool true)) (.tmp 21), (some 22), none⟩,
  ⟨.move (.tmp 22), (some 23), none⟩,
  ⟨.move (.tmp 0), (some 24), (some (23, false))⟩,
  ⟨.bu .len [(.tmp 24)], (some 25), (some (23, false))⟩,
  ⟨.move (.tmp 5), (some 26), (some (23, false))⟩,
  ⟨.bin .mul (.tmp 25) (.tmp 26), (some 27), (some (23, false))⟩,
  ⟨.bin .gtr (.tmp 27) (.const (.int .i64 262144)), (some 28), (some (23, false))⟩,
  ⟨.pick (.tmp 23) (.const (.bool true)) (.tmp 28), (some 29), none⟩,
  ⟨.move (.tmp 29), (some 30), none⟩,
  ⟨.move (.tmp 1), (some 31), (some (30, false))⟩,
  ⟨.bin .gtr (.tmp 31) (.const (.int .i64 0)), (some 32), (some (30, false))⟩,
  ⟨.move (.tmp 32), (some 33), (some (30, false))⟩,
  ⟨.move (.tmp 0), (some 34), (some (33, true))⟩,
  ⟨.bu .len [(.tmp 34)], (some 35), (some (33, true))⟩,
  ⟨.move (.tmp 5), (some 36), (some (33, true))⟩,
  ⟨.bin .mul (.tmp 35) (.tmp 36), (some 37), (some (33, true))⟩,
  ⟨.move (.tmp 1), (some 38), (some (33, true))⟩,
  ⟨.bin .quo (.const (.int .i64 16777216)) (.tmp 38), (some 39), (some (33, true))⟩,
  ⟨.bin .gtr (.tmp 37) (.tmp 39), (some 40), (some (33, true))⟩,
  ⟨.pick (.tmp 33) (.tmp 40) (.const (.bool false)), (some 41), (some (30, false))⟩,
  ⟨.pick (.tmp 30) (.const (.bool true)) (.tmp 41), (some 42), none⟩,
  ⟨.move (.tmp 42), (some 15), none⟩]
def o87_5 : List AOper := [⟨.move (.const (.int .i64 3)), (some 4), none⟩]
def o87_6 : List AOper := [⟨.move (.const (.int .i64 0)), (some 4), none⟩]
def ir87 : AFn := ⟨43, [.tmp 4], (.seq (.ops o87_0) (.seq (.ops o87_1) (.seq (.block 0 (.seq (.ops o87_2) (.cond (.tmp 12) (.seq (.ops o87_3) .ret) (.seq (.ops o87_4) (.cond (.tmp 15) (.seq (.ops o87_5) .ret) .skip))))) (.seq (.ops o87_6) .ret))))⟩
theorem ir87_eq : fnsOf Tryz.prog 87 = some ir87 := by kernel_rfl

/-! F88 lookout/match.Match -/
def o88_0 : List AOper := [⟨.move (.const (.slice none 0 0)), (some 4), none⟩,
  ⟨.move (.const (.int .i64 0)), (some 5), none⟩]
def o88_1 : List AOper := [⟨.move (.tmp 1), (some 10), none⟩,
  ⟨.bu .len [(.tmp 10)], (some 11), none⟩,
  ⟨.bin .eql (.tmp 11) (.const (.int .i64 0)), (some 12), none⟩,
  ⟨.move (.tmp 12), (some 9), none⟩]
def o88_2 : List AOper := [⟨.move (.const (.slice none 0 0)), (some 4), none⟩,
  ⟨.move (.const (.int .i64 2)), (some 5), none⟩]
def o88_3 : List AOper := [⟨.move (.tmp 0), (some 14), none⟩,
  ⟨.move (.tmp 1), (some 15), none⟩,
  ⟨.call (.func 118) [(.tmp 14), (.tmp 15)], (some 16), none⟩,
  ⟨.move (.tmp 16), (some 13), none⟩]
def o88_4 : List AOper := [⟨.move (.const (.slice none 0 0)), (some 4), none⟩,
  ⟨.move (.const (.int .i64 3)), (some 5), none⟩]
def d88_5 : List DOper := [⟨⟨.move (.tmp 0), (some 17), none⟩, 0⟩,
  ⟨⟨.bu .len [(.tmp 17)], (some 18), none⟩, 1⟩,
  ⟨⟨.makeSlice 60 16 1 [(.complex .f64 0 0)] (.tmp 18) (.tmp 18), (some 19), none⟩, 3⟩,
  ⟨⟨.move (.tmp 1), (some 20), none⟩, 0⟩,
  ⟨⟨.call (.func 119) [(.tmp 20)], (some 21), none⟩, 8⟩,
  ⟨⟨.move (.tmp 19), (some 6), none⟩, 31⟩,
  ⟨⟨.move (.tmp 21), (some 7), none⟩, 63⟩]
def o88_6 : List AOper := [⟨.move (.tmp 0), (some 22), none⟩,
  ⟨.bu .len [(.tmp 22)], (some 23), none⟩,
  ⟨.move (.const (.int .i64 0)), (some 24), none⟩]
def o88_8 : List AOper := [⟨.bin .lss (.tmp 24) (.tmp 23), (some 25), none⟩]
def o88_9 : List AOper := [⟨.move (.tmp 24), (some 26), none⟩,
  ⟨.move (.tmp 26), (some 8), none⟩]
def o88_10 : List AOper := [⟨.move (.tmp 6), (some 27), none⟩,
  ⟨.move (.tmp 8), (some 28), none⟩,
  ⟨.move (.tmp 0), (some 29), none⟩,
  ⟨.move (.tmp 8), (some 30), none⟩,
  ⟨.slSl 1 (.tmp 29) (some (.tmp 30)) none none, (some 31), none⟩,
  ⟨.move (.tmp 7), (some 32), none⟩,
  ⟨.call (.func 120) [(.tmp 31), (.tmp 32)], (some 33), none⟩,
  ⟨.addrSl 1 (.tmp 27) (.tmp 28), (some 34), none⟩,
  ⟨.store 1 (.tmp 34) (.tmp 33), none, none⟩]
def o88_11 : List AOper := [⟨.bin .add (.tmp 24) (.const (.int .i64 1)), (some 35), none⟩,
  ⟨.move (.tmp 35), (some 24), none⟩]
def b88_7 : ACode := (.seq (.ops o88_8) (.seq (.cond (.tmp 25) .skip (.exit 1)) (.seq (.block 2 (.seq (.ops o88_9) (.ops o88_10))) (.ops o88_11))))
def o88_12 : List AOper := [⟨.move (.tmp 6), (some 36), none⟩,
  ⟨.move (.tmp 36), (some 4), none⟩,
  ⟨.move (.const (.int .i64 0)), (some 5), none⟩]
def ir88 : AFn := ⟨37, [.tmp 4, .tmp 5], (.seq (.ops o88_0) (.seq (.block 0 (.seq (.ops o88_1) (.cond (.tmp 9) (.seq (.ops o88_2) .ret) (.seq (.ops o88_3) (.cond (.tmp 13) (.seq (.ops o88_4) .ret) .skip))))) (.seq (.draw d88_5) (.seq (.seq (.ops o88_6) (.block 1 (.loop b88_7))) (.seq (.ops o88_12) .ret)))))⟩
theorem ir88_eq : fnsOf Tryz.prog 88 = some ir88 := by kernel_rfl

/-! F89 lookout/still.table -/
def o89_0 : List AOper := [⟨.move (.const (.int .i64 0)), (some 2), none⟩]
def o89_1 : List AOper := [⟨.move (.tmp 0), (some 8), none⟩,
  ⟨.bu .len [(.tmp 8)], (some 9), none⟩,
  ⟨.bin .gtr (.tmp 9) (.const (.int .i64 256)), (some 10), none⟩]
def o89_2 : List AOper := [⟨.move (.const (.int .i64 3)), (some 2), none⟩]
def o89_3 : List AOper := [⟨.move (.const (.int .i64 0)), (some 3), none⟩]
def o89_4 : List AOper := [⟨.move (.tmp 0), (some 11), none⟩,
  ⟨.bu .len [(.tmp 11)], (some 12), none⟩,
  ⟨.move (.const (.int .i64 0)), (some 13), none⟩]
def o89_6 : List AOper := [⟨.bin .lss (.tmp 13) (.tmp 12), (some 14), none⟩]
def o89_7 : List AOper := [⟨.addrSl 1 (.tmp 11) (.tmp 13), (some 15), none⟩,
  ⟨.load none (.tmp 15), (some 16), none⟩,
  ⟨.move (.tmp 16), (some 5), none⟩]
def o89_8 : List AOper := [⟨.move (.tmp 5), (some 17), none⟩,
  ⟨.bu .len [(.tmp 17)], (some 18), none⟩,
  ⟨.bin .gtr (.tmp 18) (.const (.int .i64 16384)), (some 19), none⟩]
def o89_9 : List AOper := [⟨.move (.const (.int .i64 3)), (some 2), none⟩]
def o89_10 : List AOper := [⟨.move (.tmp 3), (some 20), none⟩,
  ⟨.move (.tmp 5), (some 21), none⟩,
  ⟨.bu .len [(.tmp 21)], (some 22), none⟩,
  ⟨.bin .add (.tmp 20) (.tmp 22), (some 23), none⟩,
  ⟨.move (.tmp 23), (some 3), none⟩]
def o89_11 : List AOper := [⟨.bin .add (.tmp 13) (.const (.int .i64 1)), (some 24), none⟩,
  ⟨.move (.tmp 24), (some 13), none⟩]
def b89_5 : ACode := (.seq (.ops o89_6) (.seq (.cond (.tmp 14) .skip (.exit 0)) (.seq (.block 1 (.seq (.ops o89_7) (.seq (.seq (.ops o89_8) (.cond (.tmp 19) (.seq (.ops o89_9) .ret) .skip)) (.ops o89_10)))) (.ops o89_11))))
def o89_12 : List AOper := [⟨.move (.tmp 3), (some 25), none⟩,
  ⟨.bin .gtr (.tmp 25) (.const (.int .i64 262144)), (some 26), none⟩]
def o89_13 : List AOper := [⟨.move (.const (.int .i64 3)), (some 2), none⟩]
def o89_14 : List AOper := [⟨.move (.tmp 0), (some 27), none⟩,
  ⟨.bu .len [(.tmp 27)], (some 28), none⟩,
  ⟨.move (.const (.int .i64 0)), (some 29), none⟩]
def o89_16 : List AOper := [⟨.bin .lss (.tmp 29) (.tmp 28), (some 30), none⟩]
def o89_17 : List AOper := [⟨.addrSl 1 (.tmp 27) (.tmp 29), (some 31), none⟩,
  ⟨.load none (.tmp 31), (some 32), none⟩,
  ⟨.move (.tmp 32), (some 7), none⟩]
def o89_18 : List AOper := [⟨.move (.tmp 7), (some 33), none⟩,
  ⟨.bu .len [(.tmp 33)], (some 34), none⟩,
  ⟨.move (.tmp 0), (some 35), none⟩,
  ⟨.addrSl 1 (.tmp 35) (.const (.int .i64 0)), (some 36), none⟩,
  ⟨.load none (.tmp 36), (some 37), none⟩,
  ⟨.bu .len [(.tmp 37)], (some 38), none⟩,
  ⟨.bin .neq (.tmp 34) (.tmp 38), (some 39), none⟩]
def o89_19 : List AOper := [⟨.move (.const (.int .i64 5)), (some 2), none⟩]
def o89_20 : List AOper := [⟨.bin .add (.tmp 29) (.const (.int .i64 1)), (some 40), none⟩,
  ⟨.move (.tmp 40), (some 29), none⟩]
def b89_15 : ACode := (.seq (.ops o89_16) (.seq (.cond (.tmp 30) .skip (.exit 2)) (.seq (.block 3 (.seq (.ops o89_17) (.seq (.ops o89_18) (.cond (.tmp 39) (.seq (.ops o89_19) .ret) .skip)))) (.ops o89_20))))
def o89_21 : List AOper := [⟨.move (.const (.int .i64 0)), (some 2), none⟩]
def ir89 : AFn := ⟨41, [.tmp 2], (.seq (.ops o89_0) (.seq (.seq (.ops o89_1) (.cond (.tmp 10) (.seq (.ops o89_2) .ret) .skip)) (.seq (.ops o89_3) (.seq (.seq (.ops o89_4) (.block 0 (.loop b89_5))) (.seq (.seq (.ops o89_12) (.cond (.tmp 26) (.seq (.ops o89_13) .ret) .skip)) (.seq (.seq (.ops o89_14) (.block 2 (.loop b89_15))) (.seq (.ops o89_21) .ret)))))))⟩
theorem ir89_eq : fnsOf Tryz.prog 89 = some ir89 := by kernel_rfl

/-! F90 (lookout/bank.table).columns -/
def o90_0 : List AOper := [⟨.move (.const (.int .i64 0)), (some 2), none⟩,
  ⟨.move (.const (.bool false)), (some 3), none⟩]
def o90_1 : List AOper := [⟨.move (.const (.int .i64 0)), (some 4), none⟩]
def o90_2 : List AOper := [⟨.move (.tmp 0), (some 7), none⟩,
  ⟨.bu .len [(.tmp 7)], (some 8), none⟩,
  ⟨.move (.const (.int .i64 0)), (some 9), none⟩]
def o90_4 : List AOper := [⟨.bin .lss (.tmp 9) (.tmp 8), (some 10), none⟩]
def o90_5 : List AOper := [⟨.move (.tmp 9), (some 11), none⟩,
  ⟨.addrSl 1 (.tmp 7) (.tmp 9), (some 12), none⟩,
  ⟨.load none (.tmp 12), (some 13), none⟩,
  ⟨.move (.tmp 11), (some 5), none⟩,
  ⟨.move (.tmp 13), (some 6), none⟩]
def o90_6 : List AOper := [⟨.move (.tmp 5), (some 14), none⟩,
  ⟨.bin .eql (.tmp 14) (.const (.int .i64 0)), (some 15), none⟩]
def o90_7 : List AOper := [⟨.move (.tmp 6), (some 16), none⟩,
  ⟨.bu .len [(.tmp 16)], (some 17), none⟩,
  ⟨.move (.tmp 17), (some 4), none⟩]
def o90_8 : List AOper := [⟨.move (.tmp 6), (some 18), none⟩,
  ⟨.bu .len [(.tmp 18)], (some 19), none⟩,
  ⟨.move (.tmp 4), (some 20), none⟩,
  ⟨.bin .neq (.tmp 19) (.tmp 20), (some 21), none⟩]
def o90_9 : List AOper := [⟨.move (.const (.int .i64 0)), (some 2), none⟩,
  ⟨.move (.const (.bool false)), (some 3), none⟩]
def o90_10 : List AOper := [⟨.bin .add (.tmp 9) (.const (.int .i64 1)), (some 22), none⟩,
  ⟨.move (.tmp 22), (some 9), none⟩]
def b90_3 : ACode := (.seq (.ops o90_4) (.seq (.cond (.tmp 10) .skip (.exit 0)) (.seq (.block 1 (.seq (.ops o90_5) (.seq (.ops o90_6) (.cond (.tmp 15) (.ops o90_7) (.seq (.ops o90_8) (.cond (.tmp 21) (.seq (.ops o90_9) .ret) .skip)))))) (.ops o90_10))))
def o90_11 : List AOper := [⟨.move (.tmp 4), (some 23), none⟩,
  ⟨.move (.tmp 23), (some 2), none⟩,
  ⟨.move (.const (.bool true)), (some 3), none⟩]
def ir90 : AFn := ⟨24, [.tmp 2, .tmp 3], (.seq (.ops o90_0) (.seq (.ops o90_1) (.seq (.seq (.ops o90_2) (.block 0 (.loop b90_3))) (.seq (.ops o90_11) .ret))))⟩
theorem ir90_eq : fnsOf Tryz.prog 90 = some ir90 := by kernel_rfl

/-! F91 lookout/bank.blank -/
def o91_0 : List AOper := [⟨.move (.const (.slice none 0 0)), (some 4), none⟩]
def d91_1 : List DOper := [⟨⟨.move (.tmp 0), (some 8), none⟩, 0⟩,
  ⟨⟨.move (.tmp 1), (some 9), none⟩, 0⟩,
  ⟨⟨.bin .mul (.tmp 8) (.tmp 9), (some 10), none⟩, 3⟩,
  ⟨⟨.makeSlice 60 16 1 [(.complex .f64 0 0)] (.tmp 10) (.tmp 10), (some 11), none⟩, 7⟩,
  ⟨⟨.move (.tmp 0), (some 12), none⟩, 0⟩,
  ⟨⟨.makeSlice 33 24 1 [(.slice none 0 0)] (.tmp 12) (.tmp 12), (some 13), none⟩, 16⟩,
  ⟨⟨.move (.tmp 11), (some 5), none⟩, 15⟩,
  ⟨⟨.move (.tmp 13), (some 6), none⟩, 127⟩]
def o91_2 : List AOper := [⟨.move (.tmp 0), (some 14), none⟩,
  ⟨.move (.const (.int .i64 0)), (some 15), none⟩]
def o91_4 : List AOper := [⟨.bin .lss (.tmp 15) (.tmp 14), (some 16), none⟩]
def o91_5 : List AOper := [⟨.move (.tmp 15), (some 17), none⟩,
  ⟨.move (.tmp 17), (some 7), none⟩]
def o91_6 : List AOper := [⟨.move (.tmp 6), (some 18), none⟩,
  ⟨.move (.tmp 7), (some 19), none⟩,
  ⟨.move (.tmp 5), (some 20), none⟩,
  ⟨.move (.tmp 7), (some 21), none⟩,
  ⟨.move (.tmp 1), (some 22), none⟩,
  ⟨.bin .mul (.tmp 21) (.tmp 22), (some 23), none⟩,
  ⟨.move (.tmp 7), (some 24), none⟩,
  ⟨.move (.tmp 1), (some 25), none⟩,
  ⟨.bin .mul (.tmp 24) (.tmp 25), (some 26), none⟩,
  ⟨.move (.tmp 1), (some 27), none⟩,
  ⟨.bin .add (.tmp 26) (.tmp 27), (some 28), none⟩,
  ⟨.move (.tmp 7), (some 29), none⟩,
  ⟨.move (.tmp 1), (some 30), none⟩,
  ⟨.bin .mul (.tmp 29) (.tmp 30), (some 31), none⟩,
  ⟨.move (.tmp 1), (some 32), none⟩,
  ⟨.bin .add (.tmp 31) (.tmp 32), (some 33), none⟩,
  ⟨.slSl 1 (.tmp 20) (some (.tmp 23)) (some (.tmp 28)) (some (.tmp 33)), (some 34), none⟩,
  ⟨.addrSl 1 (.tmp 18) (.tmp 19), (some 35), none⟩,
  ⟨.store 1 (.tmp 35) (.tmp 34), none, none⟩]
def o91_7 : List AOper := [⟨.bin .add (.tmp 15) (.const (.int .i64 1)), (some 36), none⟩,
  ⟨.move (.tmp 36), (some 15), none⟩]
def b91_3 : ACode := (.seq (.ops o91_4) (.seq (.cond (.tmp 16) .skip (.exit 0)) (.seq (.block 1 (.seq (.ops o91_5) (.ops o91_6))) (.ops o91_7))))
def o91_8 : List AOper := [⟨.move (.tmp 6), (some 37), none⟩,
  ⟨.move (.tmp 37), (some 4), none⟩]
def ir91 : AFn := ⟨38, [.tmp 4], (.seq (.ops o91_0) (.seq (.draw d91_1) (.seq (.seq (.ops o91_2) (.block 0 (.loop b91_3))) (.seq (.ops o91_8) .ret))))⟩
theorem ir91_eq : fnsOf Tryz.prog 91 = some ir91 := by kernel_rfl

/-! F92 lookout/dft.Slow -/
def o92_0 : List AOper := [⟨.move (.const (.slice none 0 0)), (some 4), none⟩,
  ⟨.move (.const (.int .i64 0)), (some 5), none⟩]
def o92_1 : List AOper := [⟨.move (.tmp 0), (some 15), none⟩,
  ⟨.bu .len [(.tmp 15)], (some 16), none⟩,
  ⟨.move (.tmp 16), (some 6), none⟩]
def o92_2 : List AOper := [⟨.move (.tmp 6), (some 17), none⟩,
  ⟨.bin .gtr (.tmp 17) (.const (.int .i64 1024)), (some 18), none⟩]
def o92_3 : List AOper := [⟨.move (.const (.slice none 0 0)), (some 4), none⟩,
  ⟨.move (.const (.int .i64 3)), (some 5), none⟩]
def o92_4 : List AOper := [⟨.move (.tmp 1), (some 19), none⟩,
  ⟨.call (.func 121) [(.tmp 19)], (some 20), none⟩,
  ⟨.move (.tmp 20), (some 7), none⟩]
def o92_5 : List AOper := [⟨.move (.tmp 6), (some 21), none⟩,
  ⟨.makeSlice 60 16 1 [(.complex .f64 0 0)] (.tmp 21) (.tmp 21), (some 22), none⟩,
  ⟨.move (.tmp 22), (some 8), none⟩]
def o92_6 : List AOper := [⟨.move (.tmp 8), (some 23), none⟩,
  ⟨.bu .len [(.tmp 23)], (some 24), none⟩,
  ⟨.move (.const (.int .i64 0)), (some 25), none⟩]
def o92_8 : List AOper := [⟨.bin .lss (.tmp 25) (.tmp 24), (some 26), none⟩]
def o92_9 : List AOper := [⟨.move (.tmp 25), (some 27), none⟩,
  ⟨.move (.tmp 27), (some 9), none⟩]
def o92_10 : List AOper := [⟨.move (.tmp 8), (some 28), none⟩,
  ⟨.move (.tmp 9), (some 29), none⟩,
  ⟨.move (.tmp 7), (some 30), none⟩,
  ⟨.move (.tmp 9), (some 31), none⟩,
  ⟨.move (.tmp 6), (some 32), none⟩,
  ⟨.call (.tmp 30) [(.tmp 31), (.tmp 32)], (some 33), none⟩,
  ⟨.addrSl 1 (.tmp 28) (.tmp 29), (some 34), none⟩,
  ⟨.store 1 (.tmp 34) (.tmp 33), none, none⟩]
def o92_11 : List AOper := [⟨.bin .add (.tmp 25) (.const (.int .i64 1)), (some 35), none⟩,
  ⟨.move (.tmp 35), (some 25), none⟩]
def b92_7 : ACode := (.seq (.ops o92_8) (.seq (.cond (.tmp 26) .skip (.exit 0)) (.seq (.block 1 (.seq (.ops o92_9) (.ops o92_10))) (.ops o92_11))))
def d92_12 : List DOper := [⟨⟨.move (.tmp 6), (some 36), none⟩, 0⟩,
  ⟨⟨.makeSlice 60 16 1 [(.complex .f64 0 0)] (.tmp 36) (.tmp 36), (some 37), none⟩, 1⟩,
  ⟨⟨.move (.tmp 6), (some 38), none⟩, 0⟩,
  ⟨⟨.makeSlice 60 16 1 [(.complex .f64 0 0)] (.tmp 38) (.tmp 38), (some 39), none⟩, 4⟩,
  ⟨⟨.move (.tmp 37), (some 10), none⟩, 3⟩,
  ⟨⟨.move (.tmp 39), (some 11), none⟩, 31⟩]
def o92_13 : List AOper := [⟨.move (.tmp 10), (some 40), none⟩,
  ⟨.bu .len [(.tmp 40)], (some 41), none⟩,
  ⟨.move (.const (.int .i64 0)), (some 42), none⟩]
def o92_15 : List AOper := [⟨.bin .lss (.tmp 42) (.tmp 41), (some 43), none⟩]
def o92_16 : List AOper := [⟨.move (.tmp 42), (some 44), none⟩,
  ⟨.move (.tmp 44), (some 12), none⟩]
def o92_17 : List AOper := [⟨.move (.tmp 0), (some 45), none⟩,
  ⟨.bu .len [(.tmp 45)], (some 46), none⟩,
  ⟨.move (.const (.int .i64 0)), (some 47), none⟩]
def o92_19 : List AOper := [⟨.bin .lss (.tmp 47) (.tmp 46), (some 48), none⟩]
def o92_20 : List AOper := [⟨.move (.tmp 47), (some 49), none⟩,
  ⟨.addrSl 1 (.tmp 45) (.tmp 47), (some 50), none⟩,
  ⟨.load none (.tmp 50), (some 51), none⟩,
  ⟨.move (.tmp 49), (some 13), none⟩,
  ⟨.move (.tmp 51), (some 14), none⟩]
def o92_21 : List AOper := [⟨.move (.tmp 11), (some 52), none⟩,
  ⟨.move (.tmp 13), (some 53), none⟩,
  ⟨.move (.tmp 14), (some 54), none⟩,
  ⟨.move (.tmp 8), (some 55), none⟩,
  ⟨.move (.tmp 12), (some 56), none⟩,
  ⟨.move (.tmp 13), (some 57), none⟩,
  ⟨.bin .mul (.tmp 56) (.tmp 57), (some 58), none⟩,
  ⟨.move (.tmp 6), (some 59), none⟩,
  ⟨.bin .rem (.tmp 58) (.tmp 59), (some 60), none⟩,
  ⟨.addrSl 1 (.tmp 55) (.tmp 60), (some 61), none⟩,
  ⟨.load none (.tmp 61), (some 62), none⟩,
  ⟨.call (.func 85) [(.tmp 54), (.tmp 62)], (some 63), none⟩,
  ⟨.addrSl 1 (.tmp 52) (.tmp 53), (some 64), none⟩,
  ⟨.store 1 (.tmp 64) (.tmp 63), none, none⟩]
def o92_22 : List AOper := [⟨.bin .add (.tmp 47) (.const (.int .i64 1)), (some 65), none⟩,
  ⟨.move (.tmp 65), (some 47), none⟩]
def b92_18 : ACode := (.seq (.ops o92_19) (.seq (.cond (.tmp 48) .skip (.exit 4)) (.seq (.block 5 (.seq (.ops o92_20) (.ops o92_21))) (.ops o92_22))))
def o92_23 : List AOper := [⟨.move (.tmp 10), (some 66), none⟩,
  ⟨.move (.tmp 12), (some 67), none⟩,
  ⟨.move (.tmp 11), (some 68), none⟩,
  ⟨.call (.func 122) [(.tmp 68)], (some 69), none⟩,
  ⟨.addrSl 1 (.tmp 66) (.tmp 67), (some 70), none⟩,
  ⟨.store 1 (.tmp 70) (.tmp 69), none, none⟩]
def o92_24 : List AOper := [⟨.bin .add (.tmp 42) (.const (.int .i64 1)), (some 71), none⟩,
  ⟨.move (.tmp 71), (some 42), none⟩]
def b92_14 : ACode := (.seq (.ops o92_15) (.seq (.cond (.tmp 43) .skip (.exit 2)) (.seq (.block 3 (.seq (.ops o92_16) (.seq (.seq (.ops o92_17) (.block 4 (.loop b92_18))) (.ops o92_23)))) (.ops o92_24))))
def o92_25 : List AOper := [⟨.move (.tmp 1), (some 72), none⟩]
def o92_26 : List AOper := [⟨.move (.tmp 10), (some 73), none⟩,
  ⟨.call (.func 123) [(.tmp 73)], (some 74), none⟩,
  ⟨.move (.tmp 74), (some 4), none⟩,
  ⟨.move (.const (.int .i64 0)), (some 5), none⟩]
def o92_27 : List AOper := [⟨.move (.tmp 10), (some 75), none⟩,
  ⟨.move (.tmp 75), (some 4), none⟩,
  ⟨.move (.const (.int .i64 0)), (some 5), none⟩]
def ir92 : AFn := ⟨76, [.tmp 4, .tmp 5], (.seq (.ops o92_0) (.seq (.ops o92_1) (.seq (.seq (.ops o92_2) (.cond (.tmp 18) (.seq (.ops o92_3) .ret) .skip)) (.seq (.ops o92_4) (.seq (.ops o92_5) (.seq (.seq (.ops o92_6) (.block 0 (.loop b92_7))) (.seq (.draw d92_12) (.seq (.seq (.ops o92_13) (.block 2 (.loop b92_14))) (.seq (.seq (.ops o92_25) (.cond (.tmp 72) (.seq (.ops o92_26) .ret) .skip)) (.seq (.ops o92_27) .ret))))))))))⟩
theorem ir92_eq : fnsOf Tryz.prog 92 = some ir92 := by kernel_rfl

/-! F93 lookout/cfar.looked -/
def o93_0 : List AOper := [⟨.alloc 145 [.nilFunc, (.int .i64 0), (.int .i64 0), (.int .i64 0)], (some 10), none⟩,
  ⟨.move (.const (.int .i64 0)), (some 11), none⟩]
def o93_1 : List AOper := [⟨.move (.tmp 0), (some 14), none⟩,
  ⟨.bu .len [(.tmp 14)], (some 15), none⟩,
  ⟨.bin .gtr (.tmp 15) (.const (.int .i64 16384)), (some 16), none⟩,
  ⟨.move (.tmp 16), (some 13), none⟩]
def o93_2 : List AOper := [⟨.build [.nilFunc, (.int .i64 0), (.int .i64 0), (.int .i64 0)] [], (some 17), none⟩,
  ⟨.store 4 (.tmp 10) (.tmp 17), none, none⟩,
  ⟨.move (.const (.int .i64 3)), (some 11), none⟩]
def o93_3 : List AOper := [⟨.move (.tmp 2), (some 19), none⟩,
  ⟨.bin .lss (.tmp 19) (.const (.int .i64 0)), (some 20), none⟩,
  ⟨.move (.tmp 20), (some 18), none⟩]
def o93_4 : List AOper := [⟨.move (.tmp 2), (some 21), none⟩,
  ⟨.bin .gtr (.tmp 21) (.const (.int .i64 16384)), (some 22), none⟩,
  ⟨.move (.tmp 22), (some 18), none⟩]
def o93_5 : List AOper := [⟨.move (.tmp 3), (some 23), none⟩,
  ⟨.bin .lss (.tmp 23) (.const (.int .i64 1)), (some 24), none⟩,
  ⟨.move (.tmp 24), (some 18), none⟩]
def o93_6 : List AOper := [⟨.move (.tmp 3), (some 25), none⟩,
  ⟨.bin .gtr (.tmp 25) (.const (.int .i64 16384)), (some 26), none⟩,
  ⟨.move (.tmp 26), (some 18), none⟩]
def o93_7 : List AOper := [⟨.move (.tmp 4), (some 27), none⟩,
  ⟨.bin .lss (.tmp 27) (.const (.int .i64 0)), (some 28), none⟩,
  ⟨.move (.tmp 28), (some 18), none⟩]
def o93_8 : List AOper := [⟨.move (.tmp 4), (some 29), none⟩,
  ⟨.bin .gtr (.tmp 29) (.const (.int .i64 32768)), (some 30), none⟩,
  ⟨.move (.tmp 30), (some 18), none⟩]
def o93_9 : List AOper := [⟨.build [.nilFunc, (.int .i64 0), (.int .i64 0), (.int .i64 0)] [], (some 31), none⟩,
  ⟨.store 4 (.tmp 10) (.tmp 31), none, none⟩,
  ⟨.move (.const (.int .i64 2)), (some 11), none⟩]
def o93_10 : List AOper := [⟨.call (.func 124) [], (some 32), none⟩,
  ⟨.alloc 181 [.nilFunc, .nilFunc, .nilFunc, .nilFunc], (some 12), none⟩,
  ⟨.store 4 (.tmp 12) (.tmp 32), none, none⟩]
def o93_11 : List AOper := [⟨.move (.tmp 1), (some 33), none⟩,
  ⟨.bin .lss (.tmp 33) (.const (.int .i8 0)), (some 34), none⟩,
  ⟨.move (.tmp 34), (some 35), none⟩,
  ⟨.move (.tmp 1), (some 36), (some (35, false))⟩,
  ⟨.conv (.toInt .i64) (.tmp 36), (some 37), (some (35, false))⟩,
  ⟨.bin .geq (.tmp 37) (.const (.int .i64 4)), (some 38), (some (35, false))⟩,
  ⟨.pick (.tmp 35) (.const (.bool true)) (.tmp 38), (some 39), none⟩]
def o93_12 : List AOper := [⟨.move (.const (.int .i8 0)), (some 1), none⟩]
def o93_13 : List AOper := [⟨.move (.tmp 1), (some 40), none⟩,
  ⟨.fieldAddr 0 (.tmp 12), (some 41), none⟩,
  ⟨.addrArr 4 1 (.tmp 41) (.tmp 40), (some 42), none⟩,
  ⟨.load none (.tmp 42), (some 43), none⟩,
  ⟨.move (.tmp 2), (some 44), none⟩,
  ⟨.move (.tmp 3), (some 45), none⟩,
  ⟨.move (.tmp 4), (some 46), none⟩,
  ⟨.build [.nilFunc, (.int .i64 0), (.int .i64 0), (.int .i64 0)] [(0, 1, (.tmp 43)), (1, 1, (.tmp 44)), (2, 1, (.tmp 45)), (3, 1, (.tmp 46))], (some 47), none⟩,
  ⟨.store 4 (.tmp 10) (.tmp 47), none, none⟩,
  ⟨.move (.const (.int .i64 0)), (some 11), none⟩]
def ir93 : AFn := ⟨48, [.cell 10 (some 4), .tmp 11], (.seq (.ops o93_0) (.seq (.block 0 (.seq (.ops o93_1) (.cond (.tmp 13) (.seq (.ops o93_2) .ret) (.seq (.seq (.ops o93_3) (.cond (.tmp 18) .skip (.seq (.ops o93_4) (.cond (.tmp 18) .skip (.seq (.ops o93_5) (.cond (.tmp 18) .skip (.seq (.ops o93_6) (.cond (.tmp 18) .skip (.seq (.ops o93_7) (.cond (.tmp 18) .skip (.ops o93_8))))))))))) (.cond (.tmp 18) (.seq (.ops o93_9) .ret) .skip))))) (.seq (.ops o93_10) (.seq (.seq (.ops o93_11) (.cond (.tmp 39) (.ops o93_12) .skip)) (.seq (.ops o93_13) .ret)))))⟩
theorem ir93_eq : fnsOf Tryz.prog 93 = some ir93 := by kernel_rfl

/-! F94 (lookout/cfar.look).level -/
def o94_0 : List AOper := [⟨.box 145 (.tmp 0), (some 3), none⟩,
  ⟨.box 55 (.tmp 1), (some 4), none⟩,
  ⟨.move (.const (.float .f64 0)), (some 6), none⟩]
def o94_1 : List AOper := [⟨.mkFunc (.func 125) [] [(.tmp 4)], (some 9), none⟩,
  ⟨.move (.tmp 9), (some 7), none⟩]
def d94_2 : List DOper := [⟨⟨.move (.tmp 7), (some 10), none⟩, 0⟩,
  ⟨⟨.move (.tmp 2), (some 11), none⟩, 0⟩,
  ⟨⟨.fieldAddr 1 (.tmp 3), (some 12), none⟩, 0⟩,
  ⟨⟨.load none (.tmp 12), (some 13), none⟩, 4⟩,
  ⟨⟨.bin .sub (.tmp 11) (.tmp 13), (some 14), none⟩, 14⟩,
  ⟨⟨.fieldAddr 2 (.tmp 3), (some 15), none⟩, 0⟩,
  ⟨⟨.load none (.tmp 15), (some 16), none⟩, 32⟩,
  ⟨⟨.bin .sub (.tmp 14) (.tmp 16), (some 17), none⟩, 126⟩,
  ⟨⟨.move (.tmp 2), (some 18), none⟩, 0⟩,
  ⟨⟨.fieldAddr 1 (.tmp 3), (some 19), none⟩, 0⟩,
  ⟨⟨.load none (.tmp 19), (some 20), none⟩, 512⟩,
  ⟨⟨.bin .sub (.tmp 18) (.tmp 20), (some 21), none⟩, 1792⟩,
  ⟨⟨.call (.tmp 10) [(.tmp 17), (.tmp 21)], (some 22), none⟩, 4095⟩,
  ⟨⟨.move (.tmp 7), (some 23), none⟩, 0⟩,
  ⟨⟨.move (.tmp 2), (some 24), none⟩, 0⟩,
  ⟨⟨.fieldAddr 1 (.tmp 3), (some 25), none⟩, 0⟩,
  ⟨⟨.load none (.tmp 25), (some 26), none⟩, 32768⟩,
  ⟨⟨.bin .add (.tmp 24) (.tmp 26), (some 27), none⟩, 114688⟩,
  ⟨⟨.bin .add (.tmp 27) (.const (.int .i64 1)), (some 28), none⟩, 245760⟩,
  ⟨⟨.move (.tmp 2), (some 29), none⟩, 0⟩,
  ⟨⟨.fieldAddr 1 (.tmp 3), (some 30), none⟩, 0⟩,
  ⟨⟨.load none (.tmp 30), (some 31), none⟩, 1048576⟩,
  ⟨⟨.bin .add (.tmp 29) (.tmp 31), (some 32), none⟩, 3670016⟩,
  ⟨⟨.fieldAddr 2 (.tmp 3), (some 33), none⟩, 0⟩,
  ⟨⟨.load none (.tmp 33), (some 34), none⟩, 8388608⟩,
  ⟨⟨.bin .add (.tmp 32) (.tmp 34), (some 35), none⟩, 33030144⟩,
  ⟨⟨.bin .add (.tmp 35) (.const (.int .i64 1)), (some 36), none⟩, 66584576⟩,
  ⟨⟨.call (.tmp 23) [(.tmp 28), (.tmp 36)], (some 37), none⟩, 134217727⟩,
  ⟨⟨.fieldAddr 3 (.tmp 3), (some 38), none⟩, 0⟩,
  ⟨⟨.load none (.tmp 38), (some 39), none⟩, 268435456⟩,
  ⟨⟨.build [(.slice none 0 0), (.slice none 0 0), (.int .i64 0)] [(0, 1, (.tmp 22)), (1, 1, (.tmp 37)), (2, 1, (.tmp 39))], (some 40), none⟩, 1073741823⟩,
  ⟨⟨.alloc 185 [(.slice none 0 0), (.slice none 0 0), (.int .i64 0)], (some 8), none⟩, 0⟩,
  ⟨⟨.store 3 (.tmp 8) (.tmp 40), none, none⟩, 4294967295⟩]
def o94_3 : List AOper := [⟨.fieldAddr 0 (.tmp 8), (some 41), none⟩,
  ⟨.load none (.tmp 41), (some 42), none⟩,
  ⟨.bu .len [(.tmp 42)], (some 43), none⟩,
  ⟨.fieldAddr 1 (.tmp 8), (some 44), none⟩,
  ⟨.load none (.tmp 44), (some 45), none⟩,
  ⟨.bu .len [(.tmp 45)], (some 46), none⟩,
  ⟨.bin .add (.tmp 43) (.tmp 46), (some 47), none⟩,
  ⟨.bin .eql (.tmp 47) (.const (.int .i64 0)), (some 48), none⟩]
def o94_4 : List AOper := [⟨.call (.func 126) [(.const (.int .i64 1))], (some 49), none⟩,
  ⟨.move (.tmp 49), (some 6), none⟩]
def o94_5 : List AOper := [⟨.fieldAddr 0 (.tmp 3), (some 50), none⟩,
  ⟨.load none (.tmp 50), (some 51), none⟩,
  ⟨.load (some 3) (.tmp 8), (some 52), none⟩,
  ⟨.call (.tmp 51) [(.tmp 52)], (some 53), none⟩,
  ⟨.move (.tmp 53), (some 6), none⟩]
def ir94 : AFn := ⟨54, [.tmp 6], (.seq (.ops o94_0) (.seq (.ops o94_1) (.seq (.draw d94_2) (.seq (.seq (.ops o94_3) (.cond (.tmp 48) (.seq (.ops o94_4) .ret) .skip)) (.seq (.ops o94_5) .ret)))))⟩
theorem ir94_eq : fnsOf Tryz.prog 94 = some ir94 := by kernel_rfl

/-! F95 slices.Contains[[]int,int] -/
def o95_0 : List AOper := [⟨.move (.const (.bool false)), (some 4), none⟩]
def o95_1 : List AOper := [⟨.move (.tmp 0), (some 5), none⟩,
  ⟨.move (.tmp 1), (some 6), none⟩,
  ⟨.call (.func 127) [(.tmp 5), (.tmp 6)], (some 7), none⟩,
  ⟨.bin .geq (.tmp 7) (.const (.int .i64 0)), (some 8), none⟩,
  ⟨.move (.tmp 8), (some 4), none⟩]
def ir95 : AFn := ⟨9, [.tmp 4], (.seq (.ops o95_0) (.seq (.ops o95_1) .ret))⟩
theorem ir95_eq : fnsOf Tryz.prog 95 = some ir95 := by kernel_rfl

/-! F96 slices.pdqsortCmpFunc[lookout/api.Spot] -/
def o96_0 : List AOper := [⟨.move (.const (.bool true)), (some 10), none⟩]
def o96_1 : List AOper := [⟨.move (.const (.bool true)), (some 11), none⟩]
def o96_3 : List AOper := [⟨.move (.tmp 2), (some 21), none⟩,
  ⟨.move (.tmp 1), (some 22), none⟩,
  ⟨.bin .sub (.tmp 21) (.tmp 22), (some 23), none⟩,
  ⟨.move (.tmp 23), (some 12), none⟩]
def o96_4 : List AOper := [⟨.move (.tmp 12), (some 24), none⟩,
  ⟨.bin .leq (.tmp 24) (.const (.int .i64 12)), (some 25), none⟩]
def o96_5 : List AOper := [⟨.move (.tmp 0), (some 26), none⟩,
  ⟨.move (.tmp 1), (some 27), none⟩,
  ⟨.move (.tmp 2), (some 28), none⟩,
  ⟨.move (.tmp 4), (some 29), none⟩,
  ⟨.call (.func 128) [(.tmp 26), (.tmp 27), (.tmp 28), (.tmp 29)], (some 30), none⟩]
def o96_6 : List AOper := [⟨.move (.tmp 3), (some 31), none⟩,
  ⟨.bin .eql (.tmp 31) (.const (.int .i64 0)), (some 32), none⟩]
def o96_7 : List AOper := [⟨.move (.tmp 0), (some 33), none⟩,
  ⟨.move (.tmp 1), (some 34), none⟩,
  ⟨.move (.tmp 2), (some 35), none⟩,
  ⟨.move (.tmp 4), (some 36), none⟩,
  ⟨.call (.func 129) [(.tmp 33), (.tmp 34), (.tmp 35), (.tmp 36)], (some 37), none⟩]
def o96_8 : List AOper := [⟨.move (.tmp 10), (some 38), none⟩,
  ⟨.un .not (.tmp 38), (some 39), none⟩]
def o96_9 : List AOper := [⟨.move (.tmp 0), (some 40), none⟩,
  ⟨.move (.tmp 1), (some 41), none⟩,
  ⟨.move (.tmp 2), (some 42), none⟩,
  ⟨.move (.tmp 4), (some 43), none⟩,
  ⟨.call (.func 130) [(.tmp 40), (.tmp 41), (.tmp 42), (.tmp 43)], (some 44), none⟩]
def o96_10 : List AOper := [⟨.move (.tmp 3), (some 45), none⟩,
  ⟨.bin .sub (.tmp 45) (.const (.int .i64 1)), (some 46), none⟩,
  ⟨.move (.tmp 46), (some 3), none⟩]
def o96_11 : List AOper := [⟨.move (.tmp 0), (some 48), none⟩,
  ⟨.move (.tmp 1), (some 49), none⟩,
  ⟨.move (.tmp 2), (some 50), none⟩,
  ⟨.move (.tmp 4), (some 51), none⟩,
  ⟨.call (.func 131) [(.tmp 48), (.tmp 49), (.tmp 50), (.tmp 51)], (some 52), none⟩,
  ⟨.move (.tmp 52), (some 47), none⟩,
  ⟨.extract (.tmp 47) 0, (some 53), none⟩,
  ⟨.extract (.tmp 47) 1, (some 54), none⟩,
  ⟨.move (.tmp 53), (some 13), none⟩,
  ⟨.move (.tmp 54), (some 14), none⟩]
def o96_12 : List AOper := [⟨.move (.tmp 14), (some 55), none⟩,
  ⟨.bin .eql (.tmp 55) (.const (.int .i64 2)), (some 56), none⟩]
def o96_13 : List AOper := [⟨.move (.tmp 0), (some 57), none⟩,
  ⟨.move (.tmp 1), (some 58), none⟩,
  ⟨.move (.tmp 2), (some 59), none⟩,
  ⟨.move (.tmp 4), (some 60), none⟩,
  ⟨.call (.func 132) [(.tmp 57), (.tmp 58), (.tmp 59), (.tmp 60)], (some 61), none⟩]
def o96_14 : List AOper := [⟨.move (.tmp 2), (some 62), none⟩,
  ⟨.bin .sub (.tmp 62) (.const (.int .i64 1)), (some 63), none⟩,
  ⟨.move (.tmp 13), (some 64), none⟩,
  ⟨.move (.tmp 1), (some 65), none⟩,
  ⟨.bin .sub (.tmp 64) (.tmp 65), (some 66), none⟩,
  ⟨.bin .sub (.tmp 63) (.tmp 66), (some 67), none⟩,
  ⟨.move (.tmp 67), (some 13), none⟩]
def o96_15 : List AOper := [⟨.move (.const (.int .i64 1)), (some 14), none⟩]
def o96_16 : List AOper := [⟨.move (.tmp 10), (some 68), none⟩,
  ⟨.move (.tmp 68), (some 69), none⟩,
  ⟨.move (.tmp 11), (some 70), (some (69, true))⟩,
  ⟨.pick (.tmp 69) (.tmp 70) (.const (.bool false)), (some 71), none⟩,
  ⟨.move (.tmp 71), (some 72), none⟩,
  ⟨.move (.tmp 14), (some 73), (some (72, true))⟩,
  ⟨.bin .eql (.tmp 73) (.const (.int .i64 1)), (some 74), (some (72, true))⟩,
  ⟨.pick (.tmp 72) (.tmp 74) (.const (.bool false)), (some 75), none⟩]
def o96_17 : List AOper := [⟨.move (.tmp 0), (some 76), none⟩,
  ⟨.move (.tmp 1), (some 77), none⟩,
  ⟨.move (.tmp 2), (some 78), none⟩,
  ⟨.move (.tmp 4), (some 79), none⟩,
  ⟨.call (.func 133) [(.tmp 76), (.tmp 77), (.tmp 78), (.tmp 79)], (some 80), none⟩]
def d96_18 : List DOper := [⟨⟨.move (.tmp 1), (some 81), none⟩, 0⟩,
  ⟨⟨.bin .gtr (.tmp 81) (.const (.int .i64 0)), (some 82), none⟩, 1⟩,
  ⟨⟨.move (.tmp 82), (some 83), none⟩, 3⟩,
  ⟨⟨.move (.tmp 4), (some 84), (some (83, true))⟩, 7⟩,
  ⟨⟨.move (.tmp 0), (some 85), (some (83, true))⟩, 7⟩,
  ⟨⟨.move (.tmp 1), (some 86), (some (83, true))⟩, 7⟩,
  ⟨⟨.bin .sub (.tmp 86) (.const (.int .i64 1)), (some 87), (some (83, true))⟩, 39⟩,
  ⟨⟨.addrSl 3 (.tmp 85) (.tmp 87), (some 88), (some (83, true))⟩, 119⟩,
  ⟨⟨.load (some 3) (.tmp 88), (some 89), (some (83, true))⟩, 247⟩,
  ⟨⟨.move (.tmp 0), (some 90), (some (83, true))⟩, 7⟩,
  ⟨⟨.move (.tmp 13), (some 91), (some (83, true))⟩, 7⟩,
  ⟨⟨.addrSl 3 (.tmp 90) (.tmp 91), (some 92), (some (83, true))⟩, 1543⟩,
  ⟨⟨.load (some 3) (.tmp 92), (some 93), (some (83, true))⟩, 3591⟩,
  ⟨⟨.call (.tmp 84) [(.tmp 89), (.tmp 93)], (some 94), (some (83, true))⟩, 8191⟩,
  ⟨⟨.bin .lss (.tmp 94) (.const (.int .i64 0)), (some 95), (some (83, true))⟩, 16383⟩,
  ⟨⟨.un .not (.tmp 95), (some 96), (some (83, true))⟩, 32767⟩,
  ⟨⟨.pick (.tmp 83) (.tmp 96) (.const (.bool false)), (some 97), none⟩, 65535⟩]
def o96_19 : List AOper := [⟨.move (.tmp 0), (some 98), none⟩,
  ⟨.move (.tmp 1), (some 99), none⟩,
  ⟨.move (.tmp 2), (some 100), none⟩,
  ⟨.move (.tmp 13), (some 101), none⟩,
  ⟨.move (.tmp 4), (some 102), none⟩,
  ⟨.call (.func 134) [(.tmp 98), (.tmp 99), (.tmp 100), (.tmp 101), (.tmp 102)], (some 103), none⟩,
  ⟨.move (.tmp 103), (some 15), none⟩]
def o96_20 : List AOper := [⟨.move (.tmp 15), (some 104), none⟩,
  ⟨.move (.tmp 104), (some 1), none⟩]
def o96_21 : List AOper := [⟨.move (.tmp 0), (some 106), none⟩,
  ⟨.move (.tmp 1), (some 107), none⟩,
  ⟨.move (.tmp 2), (some 108), none⟩,
  ⟨.move (.tmp 13), (some 109), none⟩,
  ⟨.move (.tmp 4), (some 110), none⟩,
  ⟨.call (.func 135) [(.tmp 106), (.tmp 107), (.tmp 108), (.tmp 109), (.tmp 110)], (some 111), none⟩,
  ⟨.move (.tmp 111), (some 105), none⟩,
  ⟨.extract (.tmp 105) 0, (some 112), none⟩,
  ⟨.extract (.tmp 105) 1, (some 113), none⟩,
  ⟨.move (.tmp 112), (some 16), none⟩,
  ⟨.move (.tmp 113), (some 17), none⟩]
def o96_22 : List AOper := [⟨.move (.tmp 17), (some 114), none⟩,
  ⟨.move (.tmp 114), (some 11), none⟩]
def o96_23 : List AOper := [⟨.move (.tmp 16), (some 115), none⟩,
  ⟨.move (.tmp 1), (some 116), none⟩,
  ⟨.bin .sub (.tmp 115) (.tmp 116), (some 117), none⟩,
  ⟨.move (.tmp 2), (some 118), none⟩,
  ⟨.move (.tmp 16), (some 119), none⟩,
  ⟨.bin .sub (.tmp 118) (.tmp 119), (some 120), none⟩,
  ⟨.move (.tmp 117), (some 18), none⟩,
  ⟨.move (.tmp 120), (some 19), none⟩]
def o96_24 : List AOper := [⟨.move (.tmp 12), (some 121), none⟩,
  ⟨.bin .quo (.tmp 121) (.const (.int .i64 8)), (some 122), none⟩,
  ⟨.move (.tmp 122), (some 20), none⟩]
def o96_25 : List AOper := [⟨.move (.tmp 18), (some 123), none⟩,
  ⟨.move (.tmp 19), (some 124), none⟩,
  ⟨.bin .lss (.tmp 123) (.tmp 124), (some 125), none⟩]
def o96_26 : List AOper := [⟨.move (.tmp 18), (some 126), none⟩,
  ⟨.move (.tmp 20), (some 127), none⟩,
  ⟨.bin .geq (.tmp 126) (.tmp 127), (some 128), none⟩,
  ⟨.move (.tmp 128), (some 10), none⟩]
def o96_27 : List AOper := [⟨.move (.tmp 0), (some 129), none⟩,
  ⟨.move (.tmp 1), (some 130), none⟩,
  ⟨.move (.tmp 16), (some 131), none⟩,
  ⟨.move (.tmp 3), (some 132), none⟩,
  ⟨.move (.tmp 4), (some 133), none⟩,
  ⟨.call (.func 96) [(.tmp 129), (.tmp 130), (.tmp 131), (.tmp 132), (.tmp 133)], (some 134), none⟩]
def o96_28 : List AOper := [⟨.move (.tmp 16), (some 135), none⟩,
  ⟨.bin .add (.tmp 135) (.const (.int .i64 1)), (some 136), none⟩,
  ⟨.move (.tmp 136), (some 1), none⟩]
def o96_29 : List AOper := [⟨.move (.tmp 19), (some 137), none⟩,
  ⟨.move (.tmp 20), (some 138), none⟩,
  ⟨.bin .geq (.tmp 137) (.tmp 138), (some 139), none⟩,
  ⟨.move (.tmp 139), (some 10), none⟩]
def o96_30 : List AOper := [⟨.move (.tmp 0), (some 140), none⟩,
  ⟨.move (.tmp 16), (some 141), none⟩,
  ⟨.bin .add (.tmp 141) (.const (.int .i64 1)), (some 142), none⟩,
  ⟨.move (.tmp 2), (some 143), none⟩,
  ⟨.move (.tmp 3), (some 144), none⟩,
  ⟨.move (.tmp 4), (some 145), none⟩,
  ⟨.call (.func 96) [(.tmp 140), (.tmp 142), (.tmp 143), (.tmp 144), (.tmp 145)], (some 146), none⟩]
def o96_31 : List AOper := [⟨.move (.tmp 16), (some 147), none⟩,
  ⟨.move (.tmp 147), (some 2), none⟩]
def b96_2 : ACode := (.block 1 (.seq (.ops o96_3) (.seq (.seq (.ops o96_4) (.cond (.tmp 25) (.seq (.ops o96_5) .ret) .skip)) (.seq (.seq (.ops o96_6) (.cond (.tmp 32) (.seq (.ops o96_7) .ret) .skip)) (.seq (.seq (.ops o96_8) (.cond (.tmp 39) (.seq (.ops o96_9) (.ops o96_10)) .skip)) (.seq (.ops o96_11) (.seq (.seq (.ops o96_12) (.cond (.tmp 56) (.seq (.ops o96_13) (.seq (.ops o96_14) (.ops o96_15))) .skip)) (.seq (.seq (.ops o96_16) (.cond (.tmp 75) (.seq (.ops o96_17) (.cond (.tmp 80) .ret .skip)) .skip)) (.seq (.seq (.draw d96_18) (.cond (.tmp 97) (.seq (.ops o96_19) (.seq (.ops o96_20) (.exit 1))) .skip)) (.seq (.ops o96_21) (.seq (.ops o96_22) (.seq (.ops o96_23) (.seq (.ops o96_24) (.seq (.ops o96_25) (.cond (.tmp 125) (.seq (.ops o96_26) (.seq (.ops o96_27) (.ops o96_28))) (.seq (.ops o96_29) (.seq (.ops o96_30) (.ops o96_31))))))))))))))))))
def ir96 : AFn := ⟨148, [], (.seq (.ops o96_0) (.seq (.ops o96_1) (.block 0 (.loop b96_2))))⟩
theorem ir96_eq : fnsOf Tryz.prog 96 = some ir96 := by kernel_rfl

/-! F97 math/bits.Len -/
def o97_0 : List AOper := [⟨.move (.const (.int .i64 0)), (some 2), none⟩]
def o97_1 : List AOper := [⟨.move (.tmp 0), (some 3), none⟩,
  ⟨.conv (.toInt .u32) (.tmp 3), (some 4), none⟩,
  ⟨.call (.func 136) [(.tmp 4)], (some 5), none⟩,
  ⟨.move (.tmp 5), (some 2), none⟩]
def o97_2 : List AOper := [⟨.move (.tmp 0), (some 6), none⟩,
  ⟨.call (.func 137) [(.tmp 6)], (some 7), none⟩,
  ⟨.move (.tmp 7), (some 2), none⟩]
def ir97 : AFn := ⟨8, [.tmp 2], (.seq (.ops o97_0) (.seq (.cond (.const (.bool false)) (.seq (.ops o97_1) .ret) .skip) (.seq (.ops o97_2) .ret)))⟩
theorem ir97_eq : fnsOf Tryz.prog 97 = some ir97 := by kernel_rfl

/-! F98 slices.pdqsortCmpFunc[[]lookout/api.Spot] -/
def o98_0 : List AOper := [⟨.move (.const (.bool true)), (some 10), none⟩]
def o98_1 : List AOper := [⟨.move (.const (.bool true)), (some 11), none⟩]
def o98_3 : List AOper := [⟨.move (.tmp 2), (some 21), none⟩,
  ⟨.move (.tmp 1), (some 22), none⟩,
  ⟨.bin .sub (.tmp 21) (.tmp 22), (some 23), none⟩,
  ⟨.move (.tmp 23), (some 12), none⟩]
def o98_4 : List AOper := [⟨.move (.tmp 12), (some 24), none⟩,
  ⟨.bin .leq (.tmp 24) (.const (.int .i64 12)), (some 25), none⟩]
def o98_5 : List AOper := [⟨.move (.tmp 0), (some 26), none⟩,
  ⟨.move (.tmp 1), (some 27), none⟩,
  ⟨.move (.tmp 2), (some 28), none⟩,
  ⟨.move (.tmp 4), (some 29), none⟩,
  ⟨.call (.func 138) [(.tmp 26), (.tmp 27), (.tmp 28), (.tmp 29)], (some 30), none⟩]
def o98_6 : List AOper := [⟨.move (.tmp 3), (some 31), none⟩,
  ⟨.bin .eql (.tmp 31) (.const (.int .i64 0)), (some 32), none⟩]
def o98_7 : List AOper := [⟨.move (.tmp 0), (some 33), none⟩,
  ⟨.move (.tmp 1), (some 34), none⟩,
  ⟨.move (.tmp 2), (some 35), none⟩,
  ⟨.move (.tmp 4), (some 36), none⟩,
  ⟨.call (.func 139) [(.tmp 33), (.tmp 34), (.tmp 35), (.tmp 36)], (some 37), none⟩]
def o98_8 : List AOper := [⟨.move (.tmp 10), (some 38), none⟩,
  ⟨.un .not (.tmp 38), (some 39), none⟩]
def o98_9 : List AOper := [⟨.move (.tmp 0), (some 40), none⟩,
  ⟨.move (.tmp 1), (some 41), none⟩,
  ⟨.move (.tmp 2), (some 42), none⟩,
  ⟨.move (.tmp 4), (some 43), none⟩,
  ⟨.call (.func 140) [(.tmp 40), (.tmp 41), (.tmp 42), (.tmp 43)], (some 44), none⟩]
def o98_10 : List AOper := [⟨.move (.tmp 3), (some 45), none⟩,
  ⟨.bin .sub (.tmp 45) (.const (.int .i64 1)), (some 46), none⟩,
  ⟨.move (.tmp 46), (some 3), none⟩]
def o98_11 : List AOper := [⟨.move (.tmp 0), (some 48), none⟩,
  ⟨.move (.tmp 1), (some 49), none⟩,
  ⟨.move (.tmp 2), (some 50), none⟩,
  ⟨.move (.tmp 4), (some 51), none⟩,
  ⟨.call (.func 141) [(.tmp 48), (.tmp 49), (.tmp 50), (.tmp 51)], (some 52), none⟩,
  ⟨.move (.tmp 52), (some 47), none⟩,
  ⟨.extract (.tmp 47) 0, (some 53), none⟩,
  ⟨.extract (.tmp 47) 1, (some 54), none⟩,
  ⟨.move (.tmp 53), (some 13), none⟩,
  ⟨.move (.tmp 54), (some 14), none⟩]
def o98_12 : List AOper := [⟨.move (.tmp 14), (some 55), none⟩,
  ⟨.bin .eql (.tmp 55) (.const (.int .i64 2)), (some 56), none⟩]
def o98_13 : List AOper := [⟨.move (.tmp 0), (some 57), none⟩,
  ⟨.move (.tmp 1), (some 58), none⟩,
  ⟨.move (.tmp 2), (some 59), none⟩,
  ⟨.move (.tmp 4), (some 60), none⟩,
  ⟨.call (.func 142) [(.tmp 57), (.tmp 58), (.tmp 59), (.tmp 60)], (some 61), none⟩]
def o98_14 : List AOper := [⟨.move (.tmp 2), (some 62), none⟩,
  ⟨.bin .sub (.tmp 62) (.const (.int .i64 1)), (some 63), none⟩,
  ⟨.move (.tmp 13), (some 64), none⟩,
  ⟨.move (.tmp 1), (some 65), none⟩,
  ⟨.bin .sub (.tmp 64) (.tmp 65), (some 66), none⟩,
  ⟨.bin .sub (.tmp 63) (.tmp 66), (some 67), none⟩,
  ⟨.move (.tmp 67), (some 13), none⟩]
def o98_15 : List AOper := [⟨.move (.const (.int .i64 1)), (some 14), none⟩]
def o98_16 : List AOper := [⟨.move (.tmp 10), (some 68), none⟩,
  ⟨.move (.tmp 68), (some 69), none⟩,
  ⟨.move (.tmp 11), (some 70), (some (69, true))⟩,
  ⟨.pick (.tmp 69) (.tmp 70) (.const (.bool false)), (some 71), none⟩,
  ⟨.move (.tmp 71), (some 72), none⟩,
  ⟨.move (.tmp 14), (some 73), (some (72, true))⟩,
  ⟨.bin .eql (.tmp 73) (.const (.int .i64 1)), (some 74), (some (72, true))⟩,
  ⟨.pick (.tmp 72) (.tmp 74) (.const (.bool false)), (some 75), none⟩]
def o98_17 : List AOper := [⟨.move (.tmp 0), (some 76), none⟩,
  ⟨.move (.tmp 1), (some 77), none⟩,
  ⟨.move (.tmp 2), (some 78), none⟩,
  ⟨.move (.tmp 4), (some 79), none⟩,
  ⟨.call (.func 143) [(.tmp 76), (.tmp 77), (.tmp 78), (.tmp 79)], (some 80), none⟩]
def d98_18 : List DOper := [⟨⟨.move (.tmp 1), (some 81), none⟩, 0⟩,
  ⟨⟨.bin .gtr (.tmp 81) (.const (.int .i64 0)), (some 82), none⟩, 1⟩,
  ⟨⟨.move (.tmp 82), (some 83), none⟩, 3⟩,
  ⟨⟨.move (.tmp 4), (some 84), (some (83, true))⟩, 7⟩,
  ⟨⟨.move (.tmp 0), (some 85), (some (83, true))⟩, 7⟩,
  ⟨⟨.move (.tmp 1), (some 86), (some (83, true))⟩, 7⟩,
  ⟨⟨.bin .sub (.tmp 86) (.const (.int .i64 1)), (some 87), (some (83, true))⟩, 39⟩,
  ⟨⟨.addrSl 1 (.tmp 85) (.tmp 87), (some 88), (some (83, true))⟩, 119⟩,
  ⟨⟨.load none (.tmp 88), (some 89), (some (83, true))⟩, 247⟩,
  ⟨⟨.move (.tmp 0), (some 90), (some (83, true))⟩, 7⟩,
  ⟨⟨.move (.tmp 13), (some 91), (some (83, true))⟩, 7⟩,
  ⟨⟨.addrSl 1 (.tmp 90) (.tmp 91), (some 92), (some (83, true))⟩, 1543⟩,
  ⟨⟨.load none (.tmp 92), (some 93), (some (83, true))⟩, 3591⟩,
  ⟨⟨.call (.tmp 84) [(.tmp 89), (.tmp 93)], (some 94), (some (83, true))⟩, 8191⟩,
  ⟨⟨.bin .lss (.tmp 94) (.const (.int .i64 0)), (some 95), (some (83, true))⟩, 16383⟩,
  ⟨⟨.un .not (.tmp 95), (some 96), (some (83, true))⟩, 32767⟩,
  ⟨⟨.pick (.tmp 83) (.tmp 96) (.const (.bool false)), (some 97), none⟩, 65535⟩]
def o98_19 : List AOper := [⟨.move (.tmp 0), (some 98), none⟩,
  ⟨.move (.tmp 1), (some 99), none⟩,
  ⟨.move (.tmp 2), (some 100), none⟩,
  ⟨.move (.tmp 13), (some 101), none⟩,
  ⟨.move (.tmp 4), (some 102), none⟩,
  ⟨.call (.func 144) [(.tmp 98), (.tmp 99), (.tmp 100), (.tmp 101), (.tmp 102)], (some 103), none⟩,
  ⟨.move (.tmp 103), (some 15), none⟩]
def o98_20 : List AOper := [⟨.move (.tmp 15), (some 104), none⟩,
  ⟨.move (.tmp 104), (some 1), none⟩]
def o98_21 : List AOper := [⟨.move (.tmp 0), (some 106), none⟩,
  ⟨.move (.tmp 1), (some 107), none⟩,
  ⟨.move (.tmp 2), (some 108), none⟩,
  ⟨.move (.tmp 13), (some 109), none⟩,
  ⟨.move (.tmp 4), (some 110), none⟩,
  ⟨.call (.func 145) [(.tmp 106), (.tmp 107), (.tmp 108), (.tmp 109), (.tmp 110)], (some 111), none⟩,
  ⟨.move (.tmp 111), (some 105), none⟩,
  ⟨.extract (.tmp 105) 0, (some 112), none⟩,
  ⟨.extract (.tmp 105) 1, (some 113), none⟩,
  ⟨.move (.tmp 112), (some 16), none⟩,
  ⟨.move (.tmp 113), (some 17), none⟩]
def o98_22 : List AOper := [⟨.move (.tmp 17), (some 114), none⟩,
  ⟨.move (.tmp 114), (some 11), none⟩]
def o98_23 : List AOper := [⟨.move (.tmp 16), (some 115), none⟩,
  ⟨.move (.tmp 1), (some 116), none⟩,
  ⟨.bin .sub (.tmp 115) (.tmp 116), (some 117), none⟩,
  ⟨.move (.tmp 2), (some 118), none⟩,
  ⟨.move (.tmp 16), (some 119), none⟩,
  ⟨.bin .sub (.tmp 118) (.tmp 119), (some 120), none⟩,
  ⟨.move (.tmp 117), (some 18), none⟩,
  ⟨.move (.tmp 120), (some 19), none⟩]
def o98_24 : List AOper := [⟨.move (.tmp 12), (some 121), none⟩,
  ⟨.bin .quo (.tmp 121) (.const (.int .i64 8)), (some 122), none⟩,
  ⟨.move (.tmp 122), (some 20), none⟩]
def o98_25 : List AOper := [⟨.move (.tmp 18), (some 123), none⟩,
  ⟨.move (.tmp 19), (some 124), none⟩,
  ⟨.bin .lss (.tmp 123) (.tmp 124), (some 125), none⟩]
def o98_26 : List AOper := [⟨.move (.tmp 18), (some 126), none⟩,
  ⟨.move (.tmp 20), (some 127), none⟩,
  ⟨.bin .geq (.tmp 126) (.tmp 127), (some 128), none⟩,
  ⟨.move (.tmp 128), (some 10), none⟩]
def o98_27 : List AOper := [⟨.move (.tmp 0), (some 129), none⟩,
  ⟨.move (.tmp 1), (some 130), none⟩,
  ⟨.move (.tmp 16), (some 131), none⟩,
  ⟨.move (.tmp 3), (some 132), none⟩,
  ⟨.move (.tmp 4), (some 133), none⟩,
  ⟨.call (.func 98) [(.tmp 129), (.tmp 130), (.tmp 131), (.tmp 132), (.tmp 133)], (some 134), none⟩]
def o98_28 : List AOper := [⟨.move (.tmp 16), (some 135), none⟩,
  ⟨.bin .add (.tmp 135) (.const (.int .i64 1)), (some 136), none⟩,
  ⟨.move (.tmp 136), (some 1), none⟩]
def o98_29 : List AOper := [⟨.move (.tmp 19), (some 137), none⟩,
  ⟨.move (.tmp 20), (some 138), none⟩,
  ⟨.bin .geq (.tmp 137) (.tmp 138), (some 139), none⟩,
  ⟨.move (.tmp 139), (some 10), none⟩]
def o98_30 : List AOper := [⟨.move (.tmp 0), (some 140), none⟩,
  ⟨.move (.tmp 16), (some 141), none⟩,
  ⟨.bin .add (.tmp 141) (.const (.int .i64 1)), (some 142), none⟩,
  ⟨.move (.tmp 2), (some 143), none⟩,
  ⟨.move (.tmp 3), (some 144), none⟩,
  ⟨.move (.tmp 4), (some 145), none⟩,
  ⟨.call (.func 98) [(.tmp 140), (.tmp 142), (.tmp 143), (.tmp 144), (.tmp 145)], (some 146), none⟩]
def o98_31 : List AOper := [⟨.move (.tmp 16), (some 147), none⟩,
  ⟨.move (.tmp 147), (some 2), none⟩]
def b98_2 : ACode := (.block 1 (.seq (.ops o98_3) (.seq (.seq (.ops o98_4) (.cond (.tmp 25) (.seq (.ops o98_5) .ret) .skip)) (.seq (.seq (.ops o98_6) (.cond (.tmp 32) (.seq (.ops o98_7) .ret) .skip)) (.seq (.seq (.ops o98_8) (.cond (.tmp 39) (.seq (.ops o98_9) (.ops o98_10)) .skip)) (.seq (.ops o98_11) (.seq (.seq (.ops o98_12) (.cond (.tmp 56) (.seq (.ops o98_13) (.seq (.ops o98_14) (.ops o98_15))) .skip)) (.seq (.seq (.ops o98_16) (.cond (.tmp 75) (.seq (.ops o98_17) (.cond (.tmp 80) .ret .skip)) .skip)) (.seq (.seq (.draw d98_18) (.cond (.tmp 97) (.seq (.ops o98_19) (.seq (.ops o98_20) (.exit 1))) .skip)) (.seq (.ops o98_21) (.seq (.ops o98_22) (.seq (.ops o98_23) (.seq (.ops o98_24) (.seq (.ops o98_25) (.cond (.tmp 125) (.seq (.ops o98_26) (.seq (.ops o98_27) (.ops o98_28))) (.seq (.ops o98_29) (.seq (.ops o98_30) (.ops o98_31))))))))))))))))))
def ir98 : AFn := ⟨148, [], (.seq (.ops o98_0) (.seq (.ops o98_1) (.block 0 (.loop b98_2))))⟩
theorem ir98_eq : fnsOf Tryz.prog 98 = some ir98 := by kernel_rfl

/-! F99 slices.ContainsFunc[[]float64,float64] -/
def o99_0 : List AOper := [⟨.move (.const (.bool false)), (some 4), none⟩]
def o99_1 : List AOper := [⟨.move (.tmp 0), (some 5), none⟩,
  ⟨.move (.tmp 1), (some 6), none⟩,
  ⟨.call (.func 146) [(.tmp 5), (.tmp 6)], (some 7), none⟩,
  ⟨.bin .geq (.tmp 7) (.const (.int .i64 0)), (some 8), none⟩,
  ⟨.move (.tmp 8), (some 4), none⟩]
def ir99 : AFn := ⟨9, [.tmp 4], (.seq (.ops o99_0) (.seq (.ops o99_1) .ret))⟩
theorem ir99_eq : fnsOf Tryz.prog 99 = some ir99 := by kernel_rfl

/-! F100 lookout/plots.finite$1 -/
def o100_0 : List AOper := [⟨.move (.const (.bool false)), (some 2), none⟩]
def o100_1 : List AOper := [⟨.move (.tmp 0), (some 3), none⟩,
  ⟨.call (.func 23) [(.tmp 3)], (some 4), none⟩,
  ⟨.move (.tmp 4), (some 5), none⟩,
  ⟨.move (.tmp 0), (some 6), (some (5, false))⟩,
  ⟨.call (.func 24) [(.tmp 6), (.const (.int .i64 0))], (some 7), (some (5, false))⟩,
  ⟨.pick (.tmp 5) (.const (.bool true)) (.tmp 7), (some 8), none⟩,
  ⟨.move (.tmp 8), (some 2), none⟩]
def ir100 : AFn := ⟨9, [.tmp 2], (.seq (.ops o100_0) (.seq (.ops o100_1) .ret))⟩
theorem ir100_eq : fnsOf Tryz.prog 100 = some ir100 := by kernel_rfl

/-! F101 lookout/gate.asked -/
def o101_0 : List AOper := [⟨.box 24 (.tmp 0), (some 2), none⟩,
  ⟨.move (.const (.int .i64 0)), (some 4), none⟩]
def o101_1 : List AOper := [⟨.load (some 5) (.tmp 2), (some 6), none⟩,
  ⟨.call (.func 7) [(.tmp 6)], (some 7), none⟩,
  ⟨.move (.tmp 7), (some 5), none⟩]
def o101_2 : List AOper := [⟨.move (.tmp 5), (some 8), none⟩,
  ⟨.bin .eql (.tmp 8) (.const (.int .i64 0)), (some 9), none⟩,
  ⟨.move (.tmp 9), (some 10), none⟩,
  ⟨.move (.tmp 1), (some 11), (some (10, true))⟩,
  ⟨.call (.func 18) [(.tmp 11)], (some 12), (some (10, true))⟩,
  ⟨.un .not (.tmp 12), (some 13), (some (10, true))⟩,
  ⟨.pick (.tmp 10) (.tmp 13) (.const (.bool false)), (some 14), none⟩]
def o101_3 : List AOper := [⟨.move (.const (.int .i64 6)), (some 4), none⟩]
def o101_4 : List AOper := [⟨.move (.tmp 5), (some 15), none⟩,
  ⟨.move (.tmp 15), (some 4), none⟩]
def ir101 : AFn := ⟨16, [.tmp 4], (.seq (.ops o101_0) (.seq (.ops o101_1) (.seq (.seq (.ops o101_2) (.cond (.tmp 14) (.seq (.ops o101_3) .ret) .skip)) (.seq (.ops o101_4) .ret))))⟩
theorem ir101_eq : fnsOf Tryz.prog 101 = some ir101 := by kernel_rfl

/-! F102 lookout/gate.told -/
def o102_0 : List AOper := [⟨.move (.const (.float .f64 0)), (some 2), none⟩,
  ⟨.move (.const (.int .i64 0)), (some 3), none⟩]
def o102_1 : List AOper := [⟨.move (.tmp 0), (some 4), none⟩,
  ⟨.call (.func 18) [(.tmp 4)], (some 5), none⟩,
  ⟨.un .not (.tmp 5), (some 6), none⟩]
def o102_2 : List AOper := [⟨.move (.const (.float .f64 0)), (some 2), none⟩,
  ⟨.move (.const (.int .i64 6)), (some 3), none⟩]
def o102_3 : List AOper := [⟨.move (.tmp 0), (some 7), none⟩,
  ⟨.move (.tmp 7), (some 2), none⟩,
  ⟨.move (.const (.int .i64 0)), (some 3), none⟩]
def ir102 : AFn := ⟨8, [.tmp 2, .tmp 3], (.seq (.ops o102_0) (.seq (.seq (.ops o102_1) (.cond (.tmp 6) (.seq (.ops o102_2) .ret) .skip)) (.seq (.ops o102_3) .ret)))⟩
theorem ir102_eq : fnsOf Tryz.prog 102 = some ir102 := by kernel_rfl

/-! F103 lookout/gate.seconds -/
def o103_0 : List AOper := [⟨.box 24 (.tmp 0), (some 1), none⟩,
  ⟨.move (.const (.float .f64 0)), (some 2), none⟩]
def o103_1 : List AOper := [⟨.fieldAddr 3 (.tmp 1), (some 3), none⟩,
  ⟨.load none (.tmp 3), (some 4), none⟩,
  ⟨.conv (.toFloat .f64) (.tmp 4), (some 5), none⟩,
  ⟨.fieldAddr 2 (.tmp 1), (some 6), none⟩,
  ⟨.load none (.tmp 6), (some 7), none⟩,
  ⟨.bin .quo (.tmp 5) (.tmp 7), (some 8), none⟩,
  ⟨.move (.tmp 8), (some 2), none⟩]
def ir103 : AFn := ⟨9, [.tmp 2], (.seq (.ops o103_0) (.seq (.ops o103_1) .ret))⟩
theorem ir103_eq : fnsOf Tryz.prog 103 = some ir103 := by kernel_rfl

/-! F104 slices.SortStableFunc[[]int,int] -/
def o104_0 : List AOper := [⟨.move (.tmp 0), (some 4), none⟩,
  ⟨.move (.tmp 0), (some 5), none⟩,
  ⟨.bu .len [(.tmp 5)], (some 6), none⟩,
  ⟨.move (.tmp 1), (some 7), none⟩,
  ⟨.call (.func 147) [(.tmp 4), (.tmp 6), (.tmp 7)], (some 8), none⟩]
def ir104 : AFn := ⟨9, [], (.ops o104_0)⟩
theorem ir104_eq : fnsOf Tryz.prog 104 = some ir104 := by kernel_rfl

/-! F118 lookout/match.long -/
def o118_0 : List AOper := [⟨.move (.const (.bool false)), (some 4), none⟩]
def o118_1 : List AOper := [⟨.move (.tmp 0), (some 5), none⟩,
  ⟨.bu .len [(.tmp 5)], (some 6), none⟩,
  ⟨.bin .gtr (.tmp 6) (.const (.int .i64 16384)), (some 7), none⟩,
  ⟨.move (.tmp 7), (some 8), none⟩,
  ⟨.move (.tmp 1), (some 9), (some (8, false))⟩,
  ⟨.bu .len [(.tmp 9)], (some 10), (some (8, false))⟩,
  ⟨.bin .gtr (.tmp 10) (.const (.int .i64 16384)), (some 11), (some (8, false))⟩,
  ⟨.pick (.tmp 8) (.const (.bool true)) (.tmp 11), (some 12), none⟩,
  ⟨.move (.tmp 12), (some 13), none⟩,
  ⟨.move (.tmp 0), (some 14), (some (13, false))⟩,
  ⟨.bu .len [(.tmp 14)], (some 15), (some (13, false))⟩,
  ⟨.move (.tmp 1), (some 16), (some (13, false))⟩,
  ⟨.bu .len [(.tmp 16)], (some 17), (some (13, false))⟩,
  ⟨.bin .mul (.tmp 15) (.tmp 17), (some 18), (some (13, false))⟩,
  ⟨.bin .gtr (.tmp 18) (.const (.int .i64 16777216)), (some 19), (some (13, false))⟩,
  ⟨.pick (.tmp 13) (.const (.bool true)) (.tmp 19), (some 20), none⟩,
  ⟨.move (.tmp 20), (some 4), none⟩]
def ir118 : AFn := ⟨21, [.tmp 4], (.seq (.ops o118_0) (.seq (.ops o118_1) .ret))⟩
theorem ir118_eq : fnsOf Tryz.prog 118 = some ir118 := by kernel_rfl

/-! F119 lookout/match.turned -/
def o119_0 : List AOper := [⟨.move (.const (.slice none 0 0)), (some 2), none⟩]
def o119_1 : List AOper := [⟨.move (.tmp 0), (some 6), none⟩,
  ⟨.bu .len [(.tmp 6)], (some 7), none⟩,
  ⟨.makeSlice 60 16 1 [(.complex .f64 0 0)] (.tmp 7) (.tmp 7), (some 8), none⟩,
  ⟨.move (.tmp 8), (some 3), none⟩]
def o119_2 : List AOper := [⟨.move (.tmp 0), (some 9), none⟩,
  ⟨.bu .len [(.tmp 9)], (some 10), none⟩,
  ⟨.move (.const (.int .i64 0)), (some 11), none⟩]
def o119_4 : List AOper := [⟨.bin .lss (.tmp 11) (.tmp 10), (some 12), none⟩]
def o119_5 : List AOper := [⟨.move (.tmp 11), (some 13), none⟩,
  ⟨.addrSl 1 (.tmp 9) (.tmp 11), (some 14), none⟩,
  ⟨.load none (.tmp 14), (some 15), none⟩,
  ⟨.move (.tmp 13), (some 4), none⟩,
  ⟨.move (.tmp 15), (some 5), none⟩]
def o119_6 : List AOper := [⟨.move (.tmp 3), (some 16), none⟩,
  ⟨.move (.tmp 4), (some 17), none⟩,
  ⟨.move (.tmp 5), (some 18), none⟩,
  ⟨.call (.func 155) [(.tmp 18)], (some 19), none⟩,
  ⟨.addrSl 1 (.tmp 16) (.tmp 17), (some 20), none⟩,
  ⟨.store 1 (.tmp 20) (.tmp 19), none, none⟩]
def o119_7 : List AOper := [⟨.bin .add (.tmp 11) (.const (.int .i64 1)), (some 21), none⟩,
  ⟨.move (.tmp 21), (some 11), none⟩]
def b119_3 : ACode := (.seq (.ops o119_4) (.seq (.cond (.tmp 12) .skip (.exit 0)) (.seq (.block 1 (.seq (.ops o119_5) (.ops o119_6))) (.ops o119_7))))
def o119_8 : List AOper := [⟨.move (.tmp 3), (some 22), none⟩,
  ⟨.move (.tmp 22), (some 2), none⟩]
def ir119 : AFn := ⟨23, [.tmp 2], (.seq (.ops o119_0) (.seq (.ops o119_1) (.seq (.seq (.ops o119_2) (.block 0 (.loop b119_3))) (.seq (.ops o119_8) .ret))))⟩
theorem ir119_eq : fnsOf Tryz.prog 119 = some ir119 := by kernel_rfl

/-! F120 lookout/match.at -/
def o120_0 : List AOper := [⟨.move (.const (.complex .f64 0 0)), (some 4), none⟩]
def o120_1 : List AOper := [⟨.move (.const (.complex .f64 0 0)), (some 5), none⟩]
def o120_2 : List AOper := [⟨.move (.tmp 0), (some 8), none⟩,
  ⟨.bu .len [(.tmp 8)], (some 9), none⟩,
  ⟨.move (.tmp 1), (some 10), none⟩,
  ⟨.bu .len [(.tmp 10)], (some 11), none⟩,
  ⟨.bu .min [(.tmp 9), (.tmp 11)], (some 12), none⟩,
  ⟨.move (.const (.int .i64 0)), (some 13), none⟩]
def o120_4 : List AOper := [⟨.bin .lss (.tmp 13) (.tmp 12), (some 14), none⟩]
def o120_5 : List AOper := [⟨.move (.tmp 13), (some 15), none⟩,
  ⟨.move (.tmp 15), (some 6), none⟩]
def d120_6 : List DOper := [⟨⟨.move (.tmp 0), (some 16), none⟩, 0⟩,
  ⟨⟨.move (.tmp 6), (some 17), none⟩, 0⟩,
  ⟨⟨.addrSl 1 (.tmp 16) (.tmp 17), (some 18), none⟩, 3⟩,
  ⟨⟨.load none (.tmp 18), (some 19), none⟩, 7⟩,
  ⟨⟨.move (.tmp 1), (some 20), none⟩, 0⟩,
  ⟨⟨.move (.tmp 6), (some 21), none⟩, 0⟩,
  ⟨⟨.addrSl 1 (.tmp 20) (.tmp 21), (some 22), none⟩, 48⟩,
  ⟨⟨.load none (.tmp 22), (some 23), none⟩, 112⟩,
  ⟨⟨.call (.func 85) [(.tmp 19), (.tmp 23)], (some 24), none⟩, 255⟩,
  ⟨⟨.move (.tmp 24), (some 7), none⟩, 511⟩]
def o120_7 : List AOper := [⟨.move (.tmp 6), (some 25), none⟩,
  ⟨.bin .eql (.tmp 25) (.const (.int .i64 0)), (some 26), none⟩]
def o120_8 : List AOper := [⟨.move (.tmp 7), (some 27), none⟩,
  ⟨.move (.tmp 27), (some 5), none⟩]
def o120_9 : List AOper := [⟨.move (.tmp 5), (some 28), none⟩,
  ⟨.move (.tmp 7), (some 29), none⟩,
  ⟨.bin .add (.tmp 28) (.tmp 29), (some 30), none⟩,
  ⟨.move (.tmp 30), (some 5), none⟩]
def o120_10 : List AOper := [⟨.bin .add (.tmp 13) (.const (.int .i64 1)), (some 31), none⟩,
  ⟨.move (.tmp 31), (some 13), none⟩]
def b120_3 : ACode := (.seq (.ops o120_4) (.seq (.cond (.tmp 14) .skip (.exit 0)) (.seq (.block 1 (.seq (.ops o120_5) (.seq (.draw d120_6) (.seq (.ops o120_7) (.cond (.tmp 26) (.ops o120_8) (.ops o120_9)))))) (.ops o120_10))))
def o120_11 : List AOper := [⟨.move (.tmp 5), (some 32), none⟩,
  ⟨.move (.tmp 32), (some 4), none⟩]
def ir120 : AFn := ⟨33, [.tmp 4], (.seq (.ops o120_0) (.seq (.ops o120_1) (.seq (.seq (.ops o120_2) (.block 0 (.loop b120_3))) (.seq (.ops o120_11) .ret))))⟩
theorem ir120_eq : fnsOf Tryz.prog 120 = some ir120 := by kernel_rfl

/-! F121 lookout/dft.taken -/
def o121_0 : List AOper := [⟨.move (.const .nilFunc), (some 2), none⟩]
def o121_1 : List AOper := [⟨.alloc 3 [(.int .i64 0)], (some 3), none⟩,
  ⟨.store 1 (.tmp 3) (.const (.int .i64 (-1))), none, none⟩]
def o121_2 : List AOper := [⟨.move (.tmp 0), (some 4), none⟩]
def o121_3 : List AOper := [⟨.store 1 (.tmp 3) (.const (.int .i64 1)), none, none⟩]
def o121_4 : List AOper := [⟨.mkFunc (.func 156) [] [(.tmp 3)], (some 5), none⟩,
  ⟨.move (.tmp 5), (some 2), none⟩]
def ir121 : AFn := ⟨6, [.tmp 2], (.seq (.ops o121_0) (.seq (.ops o121_1) (.seq (.seq (.ops o121_2) (.cond (.tmp 4) (.ops o121_3) .skip)) (.seq (.ops o121_4) .ret))))⟩
theorem ir121_eq : fnsOf Tryz.prog 121 = some ir121 := by kernel_rfl

/-! F122 lookout/sums.Sum -/
def o122_0 : List AOper := [⟨.move (.const (.complex .f64 0 0)), (some 2), none⟩]
def o122_1 : List AOper := [⟨.move (.tmp 0), (some 6), none⟩,
  ⟨.bu .len [(.tmp 6)], (some 7), none⟩,
  ⟨.bin .eql (.tmp 7) (.const (.int .i64 0)), (some 8), none⟩]
def o122_2 : List AOper := [⟨.move (.const (.complex .f64 0 0)), (some 2), none⟩]
def o122_3 : List AOper := [⟨.move (.tmp 0), (some 9), none⟩,
  ⟨.addrSl 1 (.tmp 9) (.const (.int .i64 0)), (some 10), none⟩,
  ⟨.load none (.tmp 10), (some 11), none⟩,
  ⟨.move (.tmp 11), (some 3), none⟩]
def o122_4 : List AOper := [⟨.move (.tmp 0), (some 12), none⟩,
  ⟨.slSl 1 (.tmp 12) (some (.const (.int .i64 1))) none none, (some 13), none⟩,
  ⟨.bu .len [(.tmp 13)], (some 14), none⟩,
  ⟨.move (.const (.int .i64 0)), (some 15), none⟩]
def o122_6 : List AOper := [⟨.bin .lss (.tmp 15) (.tmp 14), (some 16), none⟩]
def o122_7 : List AOper := [⟨.addrSl 1 (.tmp 13) (.tmp 15), (some 17), none⟩,
  ⟨.load none (.tmp 17), (some 18), none⟩,
  ⟨.move (.tmp 18), (some 5), none⟩]
def o122_8 : List AOper := [⟨.move (.tmp 3), (some 19), none⟩,
  ⟨.move (.tmp 5), (some 20), none⟩,
  ⟨.bin .add (.tmp 19) (.tmp 20), (some 21), none⟩,
  ⟨.move (.tmp 21), (some 3), none⟩]
def o122_9 : List AOper := [⟨.bin .add (.tmp 15) (.const (.int .i64 1)), (some 22), none⟩,
  ⟨.move (.tmp 22), (some 15), none⟩]
def b122_5 : ACode := (.seq (.ops o122_6) (.seq (.cond (.tmp 16) .skip (.exit 0)) (.seq (.block 1 (.seq (.ops o122_7) (.ops o122_8))) (.ops o122_9))))
def o122_10 : List AOper := [⟨.move (.tmp 3), (some 23), none⟩,
  ⟨.move (.tmp 23), (some 2), none⟩]
def ir122 : AFn := ⟨24, [.tmp 2], (.seq (.ops o122_0) (.seq (.seq (.ops o122_1) (.cond (.tmp 8) (.seq (.ops o122_2) .ret) .skip)) (.seq (.ops o122_3) (.seq (.seq (.ops o122_4) (.block 0 (.loop b122_5))) (.seq (.ops o122_10) .ret)))))⟩
theorem ir122_eq : fnsOf Tryz.prog 122 = some ir122 := by kernel_rfl

/-! F124 lookout/cfar.made -/
def o124_0 : List AOper := [⟨.alloc 181 [.nilFunc, .nilFunc, .nilFunc, .nilFunc], (some 0), none⟩]
def o124_1 : List AOper := [⟨.build [.nilFunc, .nilFunc, .nilFunc, .nilFunc] [(0, 1, (.func 157)), (1, 1, (.func 160)), (2, 1, (.func 163)), (3, 1, (.func 165))], (some 1), none⟩,
  ⟨.build [.nilFunc, .nilFunc, .nilFunc, .nilFunc] [(0, 4, (.tmp 1))], (some 2), none⟩,
  ⟨.store 4 (.tmp 0) (.tmp 2), none, none⟩]
def ir124 : AFn := ⟨3, [.cell 0 (some 4)], (.seq (.ops o124_0) (.seq (.ops o124_1) .ret))⟩
theorem ir124_eq : fnsOf Tryz.prog 124 = some ir124 := by kernel_rfl

/-! F127 slices.Index[[]int,int] -/
def o127_0 : List AOper := [⟨.move (.const (.int .i64 0)), (some 4), none⟩]
def o127_1 : List AOper := [⟨.move (.tmp 0), (some 6), none⟩,
  ⟨.bu .len [(.tmp 6)], (some 7), none⟩,
  ⟨.move (.const (.int .i64 0)), (some 8), none⟩]
def o127_3 : List AOper := [⟨.bin .lss (.tmp 8) (.tmp 7), (some 9), none⟩]
def o127_4 : List AOper := [⟨.move (.tmp 8), (some 10), none⟩,
  ⟨.move (.tmp 10), (some 5), none⟩]
def o127_5 : List AOper := [⟨.move (.tmp 1), (some 11), none⟩,
  ⟨.move (.tmp 0), (some 12), none⟩,
  ⟨.move (.tmp 5), (some 13), none⟩,
  ⟨.addrSl 1 (.tmp 12) (.tmp 13), (some 14), none⟩,
  ⟨.load none (.tmp 14), (some 15), none⟩,
  ⟨.bin .eql (.tmp 11) (.tmp 15), (some 16), none⟩]
def o127_6 : List AOper := [⟨.move (.tmp 5), (some 17), none⟩,
  ⟨.move (.tmp 17), (some 4), none⟩]
def o127_7 : List AOper := [⟨.bin .add (.tmp 8) (.const (.int .i64 1)), (some 18), none⟩,
  ⟨.move (.tmp 18), (some 8), none⟩]
def b127_2 : ACode := (.seq (.ops o127_3) (.seq (.cond (.tmp 9) .skip (.exit 0)) (.seq (.block 1 (.seq (.ops o127_4) (.seq (.ops o127_5) (.cond (.tmp 16) (.seq (.ops o127_6) .ret) .skip)))) (.ops o127_7))))
def o127_8 : List AOper := [⟨.move (.const (.int .i64 (-1))), (some 4), none⟩]
def ir127 : AFn := ⟨19, [.tmp 4], (.seq (.ops o127_0) (.seq (.seq (.ops o127_1) (.block 0 (.loop b127_2))) (.seq (.ops o127_8) .ret)))⟩
theorem ir127_eq : fnsOf Tryz.prog 127 = some ir127 := by kernel_rfl

/-! F128 slices.insertionSortCmpFunc[lookout/api.Spot] -/
def o128_0 : List AOper := [⟨.move (.tmp 1), (some 10), none⟩,
  ⟨.bin .add (.tmp 10) (.const (.int .i64 1)), (some 11), none⟩,
  ⟨.move (.tmp 11), (some 8), none⟩]
def o128_2 : List AOper := [⟨.move (.tmp 8), (some 12), none⟩,
  ⟨.move (.tmp 2), (some 13), none⟩,
  ⟨.bin .lss (.tmp 12) (.tmp 13), (some 14), none⟩]
def o128_3 : List AOper := [⟨.move (.tmp 8), (some 17), none⟩,
  ⟨.move (.tmp 17), (some 9), none⟩]
def d128_5 : List DOper := [⟨⟨.move (.tmp 9), (some 18), none⟩, 0⟩,
  ⟨⟨.move (.tmp 1), (some 19), none⟩, 0⟩,
  ⟨⟨.bin .gtr (.tmp 18) (.tmp 19), (some 20), none⟩, 3⟩,
  ⟨⟨.move (.tmp 20), (some 21), none⟩, 7⟩,
  ⟨⟨.move (.tmp 3), (some 22), (some (21, true))⟩, 15⟩,
  ⟨⟨.move (.tmp 0), (some 23), (some (21, true))⟩, 15⟩,
  ⟨⟨.move (.tmp 9), (some 24), (some (21, true))⟩, 15⟩,
  ⟨⟨.addrSl 3 (.tmp 23) (.tmp 24), (some 25), (some (21, true))⟩, 111⟩,
  ⟨⟨.load (some 3) (.tmp 25), (some 26), (some (21, true))⟩, 239⟩,
  ⟨⟨.move (.tmp 0), (some 27), (some (21, true))⟩, 15⟩,
  ⟨⟨.move (.tmp 9), (some 28), (some (21, true))⟩, 15⟩,
  ⟨⟨.bin .sub (.tmp 28) (.const (.int .i64 1)), (some 29), (some (21, true))⟩, 1039⟩,
  ⟨⟨.addrSl 3 (.tmp 27) (.tmp 29), (some 30), (some (21, true))⟩, 3599⟩,
  ⟨⟨.load (some 3) (.tmp 30), (some 31), (some (21, true))⟩, 7695⟩,
  ⟨⟨.call (.tmp 22) [(.tmp 26), (.tmp 31)], (some 32), (some (21, true))⟩, 16383⟩,
  ⟨⟨.bin .lss (.tmp 32) (.const (.int .i64 0)), (some 33), (some (21, true))⟩, 32767⟩,
  ⟨⟨.pick (.tmp 21) (.tmp 33) (.const (.bool false)), (some 34), none⟩, 65535⟩]
def d128_6 : List DOper := [⟨⟨.move (.tmp 0), (some 37), none⟩, 0⟩,
  ⟨⟨.move (.tmp 9), (some 38), none⟩, 0⟩,
  ⟨⟨.move (.tmp 0), (some 39), none⟩, 0⟩,
  ⟨⟨.move (.tmp 9), (some 40), none⟩, 0⟩,
  ⟨⟨.bin .sub (.tmp 40) (.const (.int .i64 1)), (some 41), none⟩, 8⟩,
  ⟨⟨.move (.tmp 0), (some 42), none⟩, 0⟩,
  ⟨⟨.move (.tmp 9), (some 43), none⟩, 0⟩,
  ⟨⟨.bin .sub (.tmp 43) (.const (.int .i64 1)), (some 44), none⟩, 64⟩,
  ⟨⟨.addrSl 3 (.tmp 42) (.tmp 44), (some 45), none⟩, 224⟩,
  ⟨⟨.load (some 3) (.tmp 45), (some 46), none⟩, 480⟩,
  ⟨⟨.move (.tmp 0), (some 47), none⟩, 0⟩,
  ⟨⟨.move (.tmp 9), (some 48), none⟩, 0⟩,
  ⟨⟨.addrSl 3 (.tmp 47) (.tmp 48), (some 49), none⟩, 3072⟩,
  ⟨⟨.load (some 3) (.tmp 49), (some 50), none⟩, 7168⟩,
  ⟨⟨.addrSl 3 (.tmp 37) (.tmp 38), (some 51), none⟩, 16355⟩,
  ⟨⟨.store 3 (.tmp 51) (.tmp 46), none, none⟩, 32739⟩,
  ⟨⟨.addrSl 3 (.tmp 39) (.tmp 41), (some 52), none⟩, 65535⟩,
  ⟨⟨.store 3 (.tmp 52) (.tmp 50), none, none⟩, 131071⟩]
def o128_7 : List AOper := [⟨.move (.tmp 9), (some 35), none⟩,
  ⟨.bin .sub (.tmp 35) (.const (.int .i64 1)), (some 36), none⟩,
  ⟨.move (.tmp 36), (some 9), none⟩]
def b128_4 : ACode := (.seq (.seq (.draw d128_5) (.cond (.tmp 34) .skip (.exit 2))) (.seq (.block 3 (.draw d128_6)) (.ops o128_7)))
def o128_8 : List AOper := [⟨.move (.tmp 8), (some 15), none⟩,
  ⟨.bin .add (.tmp 15) (.const (.int .i64 1)), (some 16), none⟩,
  ⟨.move (.tmp 16), (some 8), none⟩]
def b128_1 : ACode := (.seq (.seq (.ops o128_2) (.cond (.tmp 14) .skip (.exit 0))) (.seq (.block 1 (.seq (.ops o128_3) (.block 2 (.loop b128_4)))) (.ops o128_8)))
def ir128 : AFn := ⟨53, [], (.seq (.ops o128_0) (.block 0 (.loop b128_1)))⟩
theorem ir128_eq : fnsOf Tryz.prog 128 = some ir128 := by kernel_rfl

/-! F137 math/bits.Len64 -/
def o137_0 : List AOper := [⟨.move (.const (.int .i64 0)), (some 2), none⟩]
def o137_1 : List AOper := [⟨.move (.tmp 0), (some 3), none⟩,
  ⟨.bin .geq (.tmp 3) (.const (.int .u64 4294967296)), (some 4), none⟩]
def o137_2 : List AOper := [⟨.move (.tmp 0), (some 5), none⟩,
  ⟨.bin .shr (.tmp 5) (.const (.int .u64 32)), (some 6), none⟩,
  ⟨.move (.tmp 6), (some 0), none⟩]
def o137_3 : List AOper := [⟨.move (.const (.int .i64 32)), (some 2), none⟩]
def o137_4 : List AOper := [⟨.move (.tmp 0), (some 7), none⟩,
  ⟨.bin .geq (.tmp 7) (.const (.int .u64 65536)), (some 8), none⟩]
def o137_5 : List AOper := [⟨.move (.tmp 0), (some 9), none⟩,
  ⟨.bin .shr (.tmp 9) (.const (.int .u64 16)), (some 10), none⟩,
  ⟨.move (.tmp 10), (some 0), none⟩]
def o137_6 : List AOper := [⟨.move (.tmp 2), (some 11), none⟩,
  ⟨.bin .add (.tmp 11) (.const (.int .i64 16)), (some 12), none⟩,
  ⟨.move (.tmp 12), (some 2), none⟩]
def o137_7 : List AOper := [⟨.move (.tmp 0), (some 13), none⟩,
  ⟨.bin .geq (.tmp 13) (.const (.int .u64 256)), (some 14), none⟩]
def o137_8 : List AOper := [⟨.move (.tmp 0), (some 15), none⟩,
  ⟨.bin .shr (.tmp 15) (.const (.int .u64 8)), (some 16), none⟩,
  ⟨.move (.tmp 16), (some 0), none⟩]
def o137_9 : List AOper := [⟨.move (.tmp 2), (some 17), none⟩,
  ⟨.bin .add (.tmp 17) (.const (.int .i64 8)), (some 18), none⟩,
  ⟨.move (.tmp 18), (some 2), none⟩]
def o137_10 : List AOper := [⟨.move (.tmp 2), (some 19), none⟩,
  ⟨.move (.tmp 0), (some 20), none⟩,
  ⟨.conv (.toInt .u8) (.tmp 20), (some 21), none⟩,
  ⟨.idxStr (.const (.string ⟨#[0, 1, 2, 2, 3, 3, 3, 3, 4, 4, 4, 4, 4, 4, 4, 4, 5, 5, 5, 5, 5, 5, 5, 5, 5, 5, 5, 5, 5, 5, 5, 5, 6, 6, 6, 6, 6, 6, 6, 6, 6, 6, 6, 6, 6, 6, 6, 6, 6, 6, 6, 6, 6, 6, 6, 6, 6, 6, 6, 6, 6, 6, 6, 6, 7, 7, 7, 7, 7, 7, 7, 7, 7, 7, 7, 7, 7, 7, 7, 7, 7, 7, 7, 7, 7, 7, 7, 7, 7, 7, 7, 7, 7, 7, 7, 7, 7, 7, 7, 7, 7, 7, 7, 7, 7, 7, 7, 7, 7, 7, 7, 7, 7, 7, 7, 7, 7, 7, 7, 7, 7, 7, 7, 7, 7, 7, 7, 7, 8, 8, 8, 8, 8, 8, 8, 8, 8, 8, 8, 8, 8, 8, 8, 8, 8, 8, 8, 8, 8, 8, 8, 8, 8, 8, 8, 8, 8, 8, 8, 8, 8, 8, 8, 8, 8, 8, 8, 8, 8, 8, 8, 8, 8, 8, 8, 8, 8, 8, 8, 8, 8, 8, 8, 8, 8, 8, 8, 8, 8, 8, 8, 8, 8, 8, 8, 8, 8, 8, 8, 8, 8, 8, 8, 8, 8, 8, 8, 8, 8, 8, 8, 8, 8, 8, 8, 8, 8, 8, 8, 8, 8, 8, 8, 8, 8, 8, 8, 8, 8, 8, 8, 8, 8, 8, 8, 8, 8, 8, 8, 8, 8, 8, 8, 8, 8, 8, 8, 8, 8, 8, 8, 8, 8, 8, 8, 8]⟩)) (.tmp 21), (some 22), none⟩,
  ⟨.conv (.toInt .i64) (.tmp 22), (some 23), none⟩,
  ⟨.bin .add (.tmp 19) (.tmp 23), (some 24), none⟩,
  ⟨.move (.tmp 24), (some 2), none⟩]
def ir137 : AFn := ⟨25, [.tmp 2], (.seq (.ops o137_0) (.seq (.seq (.ops o137_1) (.cond (.tmp 4) (.seq (.ops o137_2) (.ops o137_3)) .skip)) (.seq (.seq (.ops o137_4) (.cond (.tmp 8) (.seq (.ops o137_5) (.ops o137_6)) .skip)) (.seq (.seq (.ops o137_7) (.cond (.tmp 14) (.seq (.ops o137_8) (.ops o137_9)) .skip)) (.seq (.ops o137_10) .ret)))))⟩
theorem ir137_eq : fnsOf Tryz.prog 137 = some ir137 := by kernel_rfl

/-! F138 slices.insertionSortCmpFunc[[]lookout/api.Spot] -/
def o138_0 : List AOper := [⟨.move (.tmp 1), (some 10), none⟩,
  ⟨.bin .add (.tmp 10) (.const (.int .i64 1)), (some 11), none⟩,
  ⟨.move (.tmp 11), (some 8), none⟩]
def o138_2 : List AOper := [⟨.move (.tmp 8), (some 12), none⟩,
  ⟨.move (.tmp 2), (some 13), none⟩,
  ⟨.bin .lss (.tmp 12) (.tmp 13), (some 14), none⟩]
def o138_3 : List AOper := [⟨.move (.tmp 8), (some 17), none⟩,
  ⟨.move (.tmp 17), (some 9), none⟩]
def d138_5 : List DOper := [⟨⟨.move (.tmp 9), (some 18), none⟩, 0⟩,
  ⟨⟨.move (.tmp 1), (some 19), none⟩, 0⟩,
  ⟨⟨.bin .gtr (.tmp 18) (.tmp 19), (some 20), none⟩, 3⟩,
  ⟨⟨.move (.tmp 20), (some 21), none⟩, 7⟩,
  ⟨⟨.move (.tmp 3), (some 22), (some (21, true))⟩, 15⟩,
  ⟨⟨.move (.tmp 0), (some 23), (some (21, true))⟩, 15⟩,
  ⟨⟨.move (.tmp 9), (some 24), (some (21, true))⟩, 15⟩,
  ⟨⟨.addrSl 1 (.tmp 23) (.tmp 24), (some 25), (some (21, true))⟩, 111⟩,
  ⟨⟨.load none (.tmp 25), (some 26), (some (21, true))⟩, 239⟩,
  ⟨⟨.move (.tmp 0), (some 27), (some (21, true))⟩, 15⟩,
  ⟨⟨.move (.tmp 9), (some 28), (some (21, true))⟩, 15⟩,
  ⟨⟨.bin .sub (.tmp 28) (.const (.int .i64 1)), (some 29), (some (21, true))⟩, 1039⟩,
  ⟨⟨.addrSl 1 (.tmp 27) (.tmp 29), (some 30), (some (21, true))⟩, 3599⟩,
  ⟨⟨.load none (.tmp 30), (some 31), (some (21, true))⟩, 7695⟩,
  ⟨⟨.call (.tmp 22) [(.tmp 26), (.tmp 31)], (some 32), (some (21, true))⟩, 16383⟩,
  ⟨⟨.bin .lss (.tmp 32) (.const (.int .i64 0)), (some 33), (some (21, true))⟩, 32767⟩,
  ⟨⟨.pick (.tmp 21) (.tmp 33) (.const (.bool false)), (some 34), none⟩, 65535⟩]
def d138_6 : List DOper := [⟨⟨.move (.tmp 0), (some 37), none⟩, 0⟩,
  ⟨⟨.move (.tmp 9), (some 38), none⟩, 0⟩,
  ⟨⟨.move (.tmp 0), (some 39), none⟩, 0⟩,
  ⟨⟨.move (.tmp 9), (some 40), none⟩, 0⟩,
  ⟨⟨.bin .sub (.tmp 40) (.const (.int .i64 1)), (some 41), none⟩, 8⟩,
  ⟨⟨.move (.tmp 0), (some 42), none⟩, 0⟩,
  ⟨⟨.move (.tmp 9), (some 43), none⟩, 0⟩,
  ⟨⟨.bin .sub (.tmp 43) (.const (.int .i64 1)), (some 44), none⟩, 64⟩,
  ⟨⟨.addrSl 1 (.tmp 42) (.tmp 44), (some 45), none⟩, 224⟩,
  ⟨⟨.load none (.tmp 45), (some 46), none⟩, 480⟩,
  ⟨⟨.move (.tmp 0), (some 47), none⟩, 0⟩,
  ⟨⟨.move (.tmp 9), (some 48), none⟩, 0⟩,
  ⟨⟨.addrSl 1 (.tmp 47) (.tmp 48), (some 49), none⟩, 3072⟩,
  ⟨⟨.load none (.tmp 49), (some 50), none⟩, 7168⟩,
  ⟨⟨.addrSl 1 (.tmp 37) (.tmp 38), (some 51), none⟩, 16355⟩,
  ⟨⟨.store 1 (.tmp 51) (.tmp 46), none, none⟩, 32739⟩,
  ⟨⟨.addrSl 1 (.tmp 39) (.tmp 41), (some 52), none⟩, 65535⟩,
  ⟨⟨.store 1 (.tmp 52) (.tmp 50), none, none⟩, 131071⟩]
def o138_7 : List AOper := [⟨.move (.tmp 9), (some 35), none⟩,
  ⟨.bin .sub (.tmp 35) (.const (.int .i64 1)), (some 36), none⟩,
  ⟨.move (.tmp 36), (some 9), none⟩]
def b138_4 : ACode := (.seq (.seq (.draw d138_5) (.cond (.tmp 34) .skip (.exit 2))) (.seq (.block 3 (.draw d138_6)) (.ops o138_7)))
def o138_8 : List AOper := [⟨.move (.tmp 8), (some 15), none⟩,
  ⟨.bin .add (.tmp 15) (.const (.int .i64 1)), (some 16), none⟩,
  ⟨.move (.tmp 16), (some 8), none⟩]
def b138_1 : ACode := (.seq (.seq (.ops o138_2) (.cond (.tmp 14) .skip (.exit 0))) (.seq (.block 1 (.seq (.ops o138_3) (.block 2 (.loop b138_4)))) (.ops o138_8)))
def ir138 : AFn := ⟨53, [], (.seq (.ops o138_0) (.block 0 (.loop b138_1)))⟩
theorem ir138_eq : fnsOf Tryz.prog 138 = some ir138 := by kernel_rfl

/-! F146 slices.IndexFunc[[]float64,float64] -/
def o146_0 : List AOper := [⟨.move (.const (.int .i64 0)), (some 4), none⟩]
def o146_1 : List AOper := [⟨.move (.tmp 0), (some 6), none⟩,
  ⟨.bu .len [(.tmp 6)], (some 7), none⟩,
  ⟨.move (.const (.int .i64 0)), (some 8), none⟩]
def o146_3 : List AOper := [⟨.bin .lss (.tmp 8) (.tmp 7), (some 9), none⟩]
def o146_4 : List AOper := [⟨.move (.tmp 8), (some 10), none⟩,
  ⟨.move (.tmp 10), (some 5), none⟩]
def o146_5 : List AOper := [⟨.move (.tmp 1), (some 11), none⟩,
  ⟨.move (.tmp 0), (some 12), none⟩,
  ⟨.move (.tmp 5), (some 13), none⟩,
  ⟨.addrSl 1 (.tmp 12) (.tmp 13), (some 14), none⟩,
  ⟨.load none (.tmp 14), (some 15), none⟩,
  ⟨.call (.tmp 11) [(.tmp 15)], (some 16), none⟩]
def o146_6 : List AOper := [⟨.move (.tmp 5), (some 17), none⟩,
  ⟨.move (.tmp 17), (some 4), none⟩]
def o146_7 : List AOper := [⟨.bin .add (.tmp 8) (.const (.int .i64 1)), (some 18), none⟩,
  ⟨.move (.tmp 18), (some 8), none⟩]
def b146_2 : ACode := (.seq (.ops o146_3) (.seq (.cond (.tmp 9) .skip (.exit 0)) (.seq (.block 1 (.seq (.ops o146_4) (.seq (.ops o146_5) (.cond (.tmp 16) (.seq (.ops o146_6) .ret) .skip)))) (.ops o146_7))))
def o146_8 : List AOper := [⟨.move (.const (.int .i64 (-1))), (some 4), none⟩]
def ir146 : AFn := ⟨19, [.tmp 4], (.seq (.ops o146_0) (.seq (.seq (.ops o146_1) (.block 0 (.loop b146_2))) (.seq (.ops o146_8) .ret)))⟩
theorem ir146_eq : fnsOf Tryz.prog 146 = some ir146 := by kernel_rfl

/-! F147 slices.stableCmpFunc[int] -/
def o147_0 : List AOper := [⟨.move (.const (.int .i64 20)), (some 6), none⟩]
def o147_1 : List AOper := [⟨.move (.tmp 6), (some 10), none⟩,
  ⟨.move (.const (.int .i64 0)), (some 7), none⟩,
  ⟨.move (.tmp 10), (some 8), none⟩]
def o147_3 : List AOper := [⟨.move (.tmp 8), (some 11), none⟩,
  ⟨.move (.tmp 1), (some 12), none⟩,
  ⟨.bin .leq (.tmp 11) (.tmp 12), (some 13), none⟩]
def o147_4 : List AOper := [⟨.move (.tmp 0), (some 14), none⟩,
  ⟨.move (.tmp 7), (some 15), none⟩,
  ⟨.move (.tmp 8), (some 16), none⟩,
  ⟨.move (.tmp 2), (some 17), none⟩,
  ⟨.call (.func 175) [(.tmp 14), (.tmp 15), (.tmp 16), (.tmp 17)], (some 18), none⟩]
def o147_5 : List AOper := [⟨.move (.tmp 8), (some 19), none⟩,
  ⟨.move (.tmp 19), (some 7), none⟩]
def o147_6 : List AOper := [⟨.move (.tmp 8), (some 20), none⟩,
  ⟨.move (.tmp 6), (some 21), none⟩,
  ⟨.bin .add (.tmp 20) (.tmp 21), (some 22), none⟩,
  ⟨.move (.tmp 22), (some 8), none⟩]
def b147_2 : ACode := (.seq (.seq (.ops o147_3) (.cond (.tmp 13) .skip (.exit 0))) (.block 1 (.seq (.ops o147_4) (.seq (.ops o147_5) (.ops o147_6)))))
def o147_7 : List AOper := [⟨.move (.tmp 0), (some 23), none⟩,
  ⟨.move (.tmp 7), (some 24), none⟩,
  ⟨.move (.tmp 1), (some 25), none⟩,
  ⟨.move (.tmp 2), (some 26), none⟩,
  ⟨.call (.func 175) [(.tmp 23), (.tmp 24), (.tmp 25), (.tmp 26)], (some 27), none⟩]
def o147_9 : List AOper := [⟨.move (.tmp 6), (some 28), none⟩,
  ⟨.move (.tmp 1), (some 29), none⟩,
  ⟨.bin .lss (.tmp 28) (.tmp 29), (some 30), none⟩]
def o147_10 : List AOper := [⟨.move (.tmp 6), (some 31), none⟩,
  ⟨.bin .mul (.const (.int .i64 2)) (.tmp 31), (some 32), none⟩,
  ⟨.move (.const (.int .i64 0)), (some 7), none⟩,
  ⟨.move (.tmp 32), (some 8), none⟩]
def o147_12 : List AOper := [⟨.move (.tmp 8), (some 33), none⟩,
  ⟨.move (.tmp 1), (some 34), none⟩,
  ⟨.bin .leq (.tmp 33) (.tmp 34), (some 35), none⟩]
def o147_13 : List AOper := [⟨.move (.tmp 0), (some 36), none⟩,
  ⟨.move (.tmp 7), (some 37), none⟩,
  ⟨.move (.tmp 7), (some 38), none⟩,
  ⟨.move (.tmp 6), (some 39), none⟩,
  ⟨.bin .add (.tmp 38) (.tmp 39), (some 40), none⟩,
  ⟨.move (.tmp 8), (some 41), none⟩,
  ⟨.move (.tmp 2), (some 42), none⟩,
  ⟨.call (.func 176) [(.tmp 36), (.tmp 37), (.tmp 40), (.tmp 41), (.tmp 42)], (some 43), none⟩]
def o147_14 : List AOper := [⟨.move (.tmp 8), (some 44), none⟩,
  ⟨.move (.tmp 44), (some 7), none⟩]
def o147_15 : List AOper := [⟨.move (.tmp 8), (some 45), none⟩,
  ⟨.move (.tmp 6), (some 46), none⟩,
  ⟨.bin .mul (.const (.int .i64 2)) (.tmp 46), (some 47), none⟩,
  ⟨.bin .add (.tmp 45) (.tmp 47), (some 48), none⟩,
  ⟨.move (.tmp 48), (some 8), none⟩]
def b147_11 : ACode := (.seq (.seq (.ops o147_12) (.cond (.tmp 35) .skip (.exit 4))) (.block 5 (.seq (.ops o147_13) (.seq (.ops o147_14) (.ops o147_15)))))
def o147_16 : List AOper := [⟨.move (.tmp 7), (some 49), none⟩,
  ⟨.move (.tmp 6), (some 50), none⟩,
  ⟨.bin .add (.tmp 49) (.tmp 50), (some 51), none⟩,
  ⟨.move (.tmp 51), (some 9), none⟩]
def o147_17 : List AOper := [⟨.move (.tmp 9), (some 52), none⟩,
  ⟨.move (.tmp 1), (some 53), none⟩,
  ⟨.bin .lss (.tmp 52) (.tmp 53), (some 54), none⟩]
def o147_18 : List AOper := [⟨.move (.tmp 0), (some 55), none⟩,
  ⟨.move (.tmp 7), (some 56), none⟩,
  ⟨.move (.tmp 9), (some 57), none⟩,
  ⟨.move (.tmp 1), (some 58), none⟩,
  ⟨.move (.tmp 2), (some 59), none⟩,
  ⟨.call (.func 176) [(.tmp 55), (.tmp 56), (.tmp 57), (.tmp 58), (.tmp 59)], (some 60), none⟩]
def o147_19 : List AOper := [⟨.move (.tmp 6), (some 61), none⟩,
  ⟨.bin .mul (.tmp 61) (.const (.int .i64 2)), (some 62), none⟩,
  ⟨.move (.tmp 62), (some 6), none⟩]
def b147_8 : ACode := (.seq (.seq (.ops o147_9) (.cond (.tmp 30) .skip (.exit 2))) (.block 3 (.seq (.ops o147_10) (.seq (.block 4 (.loop b147_11)) (.seq (.seq (.ops o147_16) (.seq (.ops o147_17) (.cond (.tmp 54) (.ops o147_18) .skip))) (.ops o147_19))))))
def ir147 : AFn := ⟨63, [], (.seq (.ops o147_0) (.seq (.ops o147_1) (.seq (.block 0 (.loop b147_2)) (.seq (.ops o147_7) (.block 2 (.loop b147_8))))))⟩
theorem ir147_eq : fnsOf Tryz.prog 147 = some ir147 := by kernel_rfl

/-! F155 lookout/cplx.Conj -/
def o155_0 : List AOper := [⟨.move (.const (.complex .f64 0 0)), (some 2), none⟩]
def o155_1 : List AOper := [⟨.move (.tmp 0), (some 3), none⟩,
  ⟨.bu .real [(.tmp 3)], (some 4), none⟩,
  ⟨.move (.tmp 0), (some 5), none⟩,
  ⟨.bu .imag [(.tmp 5)], (some 6), none⟩,
  ⟨.un .neg (.tmp 6), (some 7), none⟩,
  ⟨.bu .complex [(.tmp 4), (.tmp 7)], (some 8), none⟩,
  ⟨.move (.tmp 8), (some 2), none⟩]
def ir155 : AFn := ⟨9, [.tmp 2], (.seq (.ops o155_0) (.seq (.ops o155_1) .ret))⟩
theorem ir155_eq : fnsOf Tryz.prog 155 = some ir155 := by kernel_rfl

/-! F156 lookout/dft.taken$1 -/
def o156_0 : List AOper := [⟨.move (.const (.complex .f64 0 0)), (some 5), none⟩]
def o156_1 : List AOper := [⟨.load none (.tmp 2), (some 6), none⟩,
  ⟨.move (.tmp 0), (some 7), none⟩,
  ⟨.bin .mul (.tmp 6) (.tmp 7), (some 8), none⟩,
  ⟨.move (.tmp 1), (some 9), none⟩,
  ⟨.call (.func 38) [(.tmp 8), (.tmp 9)], (some 10), none⟩,
  ⟨.move (.tmp 10), (some 5), none⟩]
def ir156 : AFn := ⟨11, [.tmp 5], (.seq (.ops o156_0) (.seq (.ops o156_1) .ret))⟩
theorem ir156_eq : fnsOf Tryz.prog 156 = some ir156 := by kernel_rfl

/-! F157 lookout/cfar.made$1 -/
def o157_0 : List AOper := [⟨.box 185 (.tmp 0), (some 1), none⟩,
  ⟨.move (.const (.float .f64 0)), (some 2), none⟩]
def o157_1 : List AOper := [⟨.load (some 3) (.tmp 1), (some 3), none⟩,
  ⟨.call (.func 159) [(.tmp 3)], (some 4), none⟩,
  ⟨.call (.func 158) [(.tmp 4)], (some 5), none⟩,
  ⟨.move (.tmp 5), (some 2), none⟩]
def ir157 : AFn := ⟨6, [.tmp 2], (.seq (.ops o157_0) (.seq (.ops o157_1) .ret))⟩
theorem ir157_eq : fnsOf Tryz.prog 157 = some ir157 := by kernel_rfl

/-! F158 lookout/cfar.mean -/
def o158_0 : List AOper := [⟨.move (.const (.float .f64 0)), (some 2), none⟩]
def o158_1 : List AOper := [⟨.move (.tmp 0), (some 3), none⟩,
  ⟨.call (.func 181) [(.tmp 3)], (some 4), none⟩,
  ⟨.move (.tmp 0), (some 5), none⟩,
  ⟨.bu .len [(.tmp 5)], (some 6), none⟩,
  ⟨.conv (.toFloat .f64) (.tmp 6), (some 7), none⟩,
  ⟨.bin .quo (.tmp 4) (.tmp 7), (some 8), none⟩,
  ⟨.move (.tmp 8), (some 2), none⟩]
def ir158 : AFn := ⟨9, [.tmp 2], (.seq (.ops o158_0) (.seq (.ops o158_1) .ret))⟩
theorem ir158_eq : fnsOf Tryz.prog 158 = some ir158 := by kernel_rfl

/-! F159 (lookout/cfar.side).all -/
def o159_0 : List AOper := [⟨.box 185 (.tmp 0), (some 1), none⟩,
  ⟨.move (.const (.slice none 0 0)), (some 2), none⟩]
def d159_1 : List DOper := [⟨⟨.fieldAddr 0 (.tmp 1), (some 3), none⟩, 0⟩,
  ⟨⟨.load none (.tmp 3), (some 4), none⟩, 1⟩,
  ⟨⟨.append 22 8 1 [(.float .f64 0)] (.const (.slice none 0 0)) (.tmp 4), (some 5), none⟩, 3⟩,
  ⟨⟨.fieldAddr 1 (.tmp 1), (some 6), none⟩, 0⟩,
  ⟨⟨.load none (.tmp 6), (some 7), none⟩, 8⟩,
  ⟨⟨.append 22 8 1 [(.float .f64 0)] (.tmp 5) (.tmp 7), (some 8), none⟩, 31⟩,
  ⟨⟨.move (.tmp 8), (some 2), none⟩, 63⟩]
def ir159 : AFn := ⟨9, [.tmp 2], (.seq (.ops o159_0) (.seq (.draw d159_1) .ret))⟩
theorem ir159_eq : fnsOf Tryz.prog 159 = some ir159 := by kernel_rfl

/-! F175 slices.insertionSortCmpFunc[int] -/
def o175_0 : List AOper := [⟨.move (.tmp 1), (some 10), none⟩,
  ⟨.bin .add (.tmp 10) (.const (.int .i64 1)), (some 11), none⟩,
  ⟨.move (.tmp 11), (some 8), none⟩]
def o175_2 : List AOper := [⟨.move (.tmp 8), (some 12), none⟩,
  ⟨.move (.tmp 2), (some 13), none⟩,
  ⟨.bin .lss (.tmp 12) (.tmp 13), (some 14), none⟩]
def o175_3 : List AOper := [⟨.move (.tmp 8), (some 17), none⟩,
  ⟨.move (.tmp 17), (some 9), none⟩]
def d175_5 : List DOper := [⟨⟨.move (.tmp 9), (some 18), none⟩, 0⟩,
  ⟨⟨.move (.tmp 1), (some 19), none⟩, 0⟩,
  ⟨⟨.bin .gtr (.tmp 18) (.tmp 19), (some 20), none⟩, 3⟩,
  ⟨⟨.move (.tmp 20), (some 21), none⟩, 7⟩,
  ⟨⟨.move (.tmp 3), (some 22), (some (21, true))⟩, 15⟩,
  ⟨⟨.move (.tmp 0), (some 23), (some (21, true))⟩, 15⟩,
  ⟨⟨.move (.tmp 9), (some 24), (some (21, true))⟩, 15⟩,
  ⟨⟨.addrSl 1 (.tmp 23) (.tmp 24), (some 25), (some (21, true))⟩, 111⟩,
  ⟨⟨.load none (.tmp 25), (some 26), (some (21, true))⟩, 239⟩,
  ⟨⟨.move (.tmp 0), (some 27), (some (21, true))⟩, 15⟩,
  ⟨⟨.move (.tmp 9), (some 28), (some (21, true))⟩, 15⟩,
  ⟨⟨.bin .sub (.tmp 28) (.const (.int .i64 1)), (some 29), (some (21, true))⟩, 1039⟩,
  ⟨⟨.addrSl 1 (.tmp 27) (.tmp 29), (some 30), (some (21, true))⟩, 3599⟩,
  ⟨⟨.load none (.tmp 30), (some 31), (some (21, true))⟩, 7695⟩,
  ⟨⟨.call (.tmp 22) [(.tmp 26), (.tmp 31)], (some 32), (some (21, true))⟩, 16383⟩,
  ⟨⟨.bin .lss (.tmp 32) (.const (.int .i64 0)), (some 33), (some (21, true))⟩, 32767⟩,
  ⟨⟨.pick (.tmp 21) (.tmp 33) (.const (.bool false)), (some 34), none⟩, 65535⟩]
def d175_6 : List DOper := [⟨⟨.move (.tmp 0), (some 37), none⟩, 0⟩,
  ⟨⟨.move (.tmp 9), (some 38), none⟩, 0⟩,
  ⟨⟨.move (.tmp 0), (some 39), none⟩, 0⟩,
  ⟨⟨.move (.tmp 9), (some 40), none⟩, 0⟩,
  ⟨⟨.bin .sub (.tmp 40) (.const (.int .i64 1)), (some 41), none⟩, 8⟩,
  ⟨⟨.move (.tmp 0), (some 42), none⟩, 0⟩,
  ⟨⟨.move (.tmp 9), (some 43), none⟩, 0⟩,
  ⟨⟨.bin .sub (.tmp 43) (.const (.int .i64 1)), (some 44), none⟩, 64⟩,
  ⟨⟨.addrSl 1 (.tmp 42) (.tmp 44), (some 45), none⟩, 224⟩,
  ⟨⟨.load none (.tmp 45), (some 46), none⟩, 480⟩,
  ⟨⟨.move (.tmp 0), (some 47), none⟩, 0⟩,
  ⟨⟨.move (.tmp 9), (some 48), none⟩, 0⟩,
  ⟨⟨.addrSl 1 (.tmp 47) (.tmp 48), (some 49), none⟩, 3072⟩,
  ⟨⟨.load none (.tmp 49), (some 50), none⟩, 7168⟩,
  ⟨⟨.addrSl 1 (.tmp 37) (.tmp 38), (some 51), none⟩, 16355⟩,
  ⟨⟨.store 1 (.tmp 51) (.tmp 46), none, none⟩, 32739⟩,
  ⟨⟨.addrSl 1 (.tmp 39) (.tmp 41), (some 52), none⟩, 65535⟩,
  ⟨⟨.store 1 (.tmp 52) (.tmp 50), none, none⟩, 131071⟩]
def o175_7 : List AOper := [⟨.move (.tmp 9), (some 35), none⟩,
  ⟨.bin .sub (.tmp 35) (.const (.int .i64 1)), (some 36), none⟩,
  ⟨.move (.tmp 36), (some 9), none⟩]
def b175_4 : ACode := (.seq (.seq (.draw d175_5) (.cond (.tmp 34) .skip (.exit 2))) (.seq (.block 3 (.draw d175_6)) (.ops o175_7)))
def o175_8 : List AOper := [⟨.move (.tmp 8), (some 15), none⟩,
  ⟨.bin .add (.tmp 15) (.const (.int .i64 1)), (some 16), none⟩,
  ⟨.move (.tmp 16), (some 8), none⟩]
def b175_1 : ACode := (.seq (.seq (.ops o175_2) (.cond (.tmp 14) .skip (.exit 0))) (.seq (.block 1 (.seq (.ops o175_3) (.block 2 (.loop b175_4)))) (.ops o175_8)))
def ir175 : AFn := ⟨53, [], (.seq (.ops o175_0) (.block 0 (.loop b175_1)))⟩
theorem ir175_eq : fnsOf Tryz.prog 175 = some ir175 := by kernel_rfl

/-! F181 lookout/sums.Floats -/
def o181_0 : List AOper := [⟨.move (.const (.float .f64 0)), (some 2), none⟩]
def o181_1 : List AOper := [⟨.move (.tmp 0), (some 6), none⟩,
  ⟨.bu .len [(.tmp 6)], (some 7), none⟩,
  ⟨.bin .eql (.tmp 7) (.const (.int .i64 0)), (some 8), none⟩]
def o181_2 : List AOper := [⟨.move (.const (.float .f64 0)), (some 2), none⟩]
def o181_3 : List AOper := [⟨.move (.tmp 0), (some 9), none⟩,
  ⟨.addrSl 1 (.tmp 9) (.const (.int .i64 0)), (some 10), none⟩,
  ⟨.load none (.tmp 10), (some 11), none⟩,
  ⟨.move (.tmp 11), (some 3), none⟩]
def o181_4 : List AOper := [⟨.move (.tmp 0), (some 12), none⟩,
  ⟨.slSl 1 (.tmp 12) (some (.const (.int .i64 1))) none none, (some 13), none⟩,
  ⟨.bu .len [(.tmp 13)], (some 14), none⟩,
  ⟨.move (.const (.int .i64 0)), (some 15), none⟩]
def o181_6 : List AOper := [⟨.bin .lss (.tmp 15) (.tmp 14), (some 16), none⟩]
def o181_7 : List AOper := [⟨.addrSl 1 (.tmp 13) (.tmp 15), (some 17), none⟩,
  ⟨.load none (.tmp 17), (some 18), none⟩,
  ⟨.move (.tmp 18), (some 5), none⟩]
def o181_8 : List AOper := [⟨.move (.tmp 3), (some 19), none⟩,
  ⟨.move (.tmp 5), (some 20), none⟩,
  ⟨.bin .add (.tmp 19) (.tmp 20), (some 21), none⟩,
  ⟨.move (.tmp 21), (some 3), none⟩]
def o181_9 : List AOper := [⟨.bin .add (.tmp 15) (.const (.int .i64 1)), (some 22), none⟩,
  ⟨.move (.tmp 22), (some 15), none⟩]
def b181_5 : ACode := (.seq (.ops o181_6) (.seq (.cond (.tmp 16) .skip (.exit 0)) (.seq (.block 1 (.seq (.ops o181_7) (.ops o181_8))) (.ops o181_9))))
def o181_10 : List AOper := [⟨.move (.tmp 3), (some 23), none⟩,
  ⟨.move (.tmp 23), (some 2), none⟩]
def ir181 : AFn := ⟨24, [.tmp 2], (.seq (.ops o181_0) (.seq (.seq (.ops o181_1) (.cond (.tmp 8) (.seq (.ops o181_2) .ret) .skip)) (.seq (.ops o181_3) (.seq (.seq (.ops o181_4) (.block 0 (.loop b181_5))) (.seq (.ops o181_10) .ret)))))⟩
theorem ir181_eq : fnsOf Tryz.prog 181 = some ir181 := by kernel_rfl

/-! F38 lookout/turn.Unit -/
def o38_0 : List AOper := [⟨.move (.const (.complex .f64 0 0)), (some 4), none⟩]
def o38_1 : List AOper := [⟨.move (.tmp 1), (some 5), none⟩,
  ⟨.bin .lss (.tmp 5) (.const (.int .i64 1)), (some 6), none⟩]
def o38_2 : List AOper := [⟨.move (.const (.complex .f64 0 0)), (some 4), none⟩]
def o38_3 : List AOper := [⟨.move (.tmp 0), (some 7), none⟩,
  ⟨.move (.tmp 1), (some 8), none⟩,
  ⟨.bin .rem (.tmp 7) (.tmp 8), (some 9), none⟩,
  ⟨.move (.tmp 9), (some 0), none⟩]
def o38_4 : List AOper := [⟨.move (.tmp 0), (some 10), none⟩,
  ⟨.bin .lss (.tmp 10) (.const (.int .i64 0)), (some 11), none⟩]
def o38_5 : List AOper := [⟨.move (.tmp 0), (some 12), none⟩,
  ⟨.move (.tmp 1), (some 13), none⟩,
  ⟨.bin .add (.tmp 12) (.tmp 13), (some 14), none⟩,
  ⟨.move (.tmp 14), (some 0), none⟩]
def o38_6 : List AOper := [⟨.move (.tmp 0), (some 15), none⟩,
  ⟨.move (.tmp 1), (some 16), none⟩,
  ⟨.move (.tmp 0), (some 17), none⟩,
  ⟨.bin .sub (.tmp 16) (.tmp 17), (some 18), none⟩,
  ⟨.bin .gtr (.tmp 15) (.tmp 18), (some 19), none⟩]
def o38_7 : List AOper := [⟨.move (.tmp 0), (some 20), none⟩,
  ⟨.move (.tmp 1), (some 21), none⟩,
  ⟨.bin .sub (.tmp 20) (.tmp 21), (some 22), none⟩,
  ⟨.move (.tmp 22), (some 0), none⟩]
def o38_8 : List AOper := [⟨.move (.tmp 0), (some 23), none⟩,
  ⟨.conv (.toFloat .f64) (.tmp 23), (some 24), none⟩,
  ⟨.move (.tmp 1), (some 25), none⟩,
  ⟨.conv (.toFloat .f64) (.tmp 25), (some 26), none⟩,
  ⟨.bin .quo (.tmp 24) (.tmp 26), (some 27), none⟩,
  ⟨.call (.func 40) [(.tmp 27)], (some 28), none⟩,
  ⟨.move (.tmp 28), (some 4), none⟩]
def ir38 : AFn := ⟨29, [.tmp 4], (.seq (.ops o38_0) (.seq (.seq (.ops o38_1) (.cond (.tmp 6) (.seq (.ops o38_2) .ret) .skip)) (.seq (.ops o38_3) (.seq (.seq (.ops o38_4) (.cond (.tmp 11) (.ops o38_5) .skip)) (.seq (.seq (.ops o38_6) (.cond (.tmp 19) (.ops o38_7) .skip)) (.seq (.ops o38_8) .ret))))))⟩
theorem ir38_eq : fnsOf Tryz.prog 38 = some ir38 := by kernel_rfl

/-! F40 lookout/turn.Turn -/
def o40_0 : List AOper := [⟨.move (.const (.complex .f64 0 0)), (some 2), none⟩]
def o40_1 : List AOper := [⟨.move (.tmp 0), (some 8), none⟩,
  ⟨.call (.func 72) [(.tmp 8)], (some 9), none⟩,
  ⟨.move (.tmp 9), (some 3), none⟩]
def o40_2 : List AOper := [⟨.move (.tmp 3), (some 10), none⟩,
  ⟨.move (.tmp 3), (some 11), none⟩,
  ⟨.bin .neq (.tmp 10) (.tmp 11), (some 12), none⟩]
def o40_3 : List AOper := [⟨.move (.tmp 3), (some 13), none⟩,
  ⟨.move (.tmp 3), (some 14), none⟩,
  ⟨.bu .complex [(.tmp 13), (.tmp 14)], (some 15), none⟩,
  ⟨.move (.tmp 15), (some 2), none⟩]
def o40_4 : List AOper := [⟨.move (.tmp 3), (some 16), none⟩,
  ⟨.ext 5 41 [(.tmp 16)], (some 17), none⟩,
  ⟨.move (.tmp 17), (some 4), none⟩]
def o40_5 : List AOper := [⟨.move (.tmp 4), (some 18), none⟩,
  ⟨.bin .gtr (.tmp 18) (.const (.float .f64 4598175219545276416)), (some 19), none⟩,
  ⟨.move (.tmp 19), (some 5), none⟩]
def o40_6 : List AOper := [⟨.move (.tmp 5), (some 20), none⟩]
def o40_7 : List AOper := [⟨.move (.tmp 4), (some 21), none⟩,
  ⟨.bin .sub (.const (.float .f64 4602678819172646912)) (.tmp 21), (some 22), none⟩,
  ⟨.move (.tmp 22), (some 4), none⟩]
def o40_8 : List AOper := [⟨.move (.tmp 4), (some 23), none⟩,
  ⟨.bin .gtr (.tmp 23) (.const (.float .f64 4593671619917905920)), (some 24), none⟩,
  ⟨.move (.tmp 24), (some 6), none⟩]
def o40_9 : List AOper := [⟨.move (.tmp 6), (some 25), none⟩]
def o40_10 : List AOper := [⟨.move (.tmp 4), (some 26), none⟩,
  ⟨.bin .sub (.const (.float .f64 4598175219545276416)) (.tmp 26), (some 27), none⟩,
  ⟨.move (.tmp 27), (some 4), none⟩]
def o40_11 : List AOper := [⟨.move (.tmp 4), (some 28), none⟩,
  ⟨.call (.func 73) [(.tmp 28)], (some 29), none⟩,
  ⟨.move (.tmp 29), (some 7), none⟩]
def o40_12 : List AOper := [⟨.move (.tmp 6), (some 30), none⟩]
def o40_13 : List AOper := [⟨.move (.tmp 7), (some 31), none⟩,
  ⟨.bu .imag [(.tmp 31)], (some 32), none⟩,
  ⟨.move (.tmp 7), (some 33), none⟩,
  ⟨.bu .real [(.tmp 33)], (some 34), none⟩,
  ⟨.bu .complex [(.tmp 32), (.tmp 34)], (some 35), none⟩,
  ⟨.move (.tmp 35), (some 7), none⟩]
def o40_14 : List AOper := [⟨.move (.tmp 5), (some 36), none⟩]
def o40_15 : List AOper := [⟨.move (.tmp 7), (some 37), none⟩,
  ⟨.bu .real [(.tmp 37)], (some 38), none⟩,
  ⟨.un .neg (.tmp 38), (some 39), none⟩,
  ⟨.move (.tmp 7), (some 40), none⟩,
  ⟨.bu .imag [(.tmp 40)], (some 41), none⟩,
  ⟨.bu .complex [(.tmp 39), (.tmp 41)], (some 42), none⟩,
  ⟨.move (.tmp 42), (some 7), none⟩]
def o40_16 : List AOper := [⟨.move (.tmp 3), (some 43), none⟩,
  ⟨.bin .lss (.tmp 43) (.const (.float .f64 0)), (some 44), none⟩]
def o40_17 : List AOper := [⟨.move (.tmp 7), (some 45), none⟩,
  ⟨.bu .real [(.tmp 45)], (some 46), none⟩,
  ⟨.move (.tmp 7), (some 47), none⟩,
  ⟨.bu .imag [(.tmp 47)], (some 48), none⟩,
  ⟨.un .neg (.tmp 48), (some 49), none⟩,
  ⟨.bu .complex [(.tmp 46), (.tmp 49)], (some 50), none⟩,
  ⟨.move (.tmp 50), (some 7), none⟩]
def o40_18 : List AOper := [⟨.move (.tmp 7), (some 51), none⟩,
  ⟨.bu .real [(.tmp 51)], (some 52), none⟩,
  ⟨.bin .add (.tmp 52) (.const (.float .f64 0)), (some 53), none⟩,
  ⟨.move (.tmp 7), (some 54), none⟩,
  ⟨.bu .imag [(.tmp 54)], (some 55), none⟩,
  ⟨.bin .add (.tmp 55) (.const (.float .f64 0)), (some 56), none⟩,
  ⟨.bu .complex [(.tmp 53), (.tmp 56)], (some 57), none⟩,
  ⟨.move (.tmp 57), (some 2), none⟩]
def ir40 : AFn := ⟨58, [.tmp 2], (.seq (.ops o40_0) (.seq (.ops o40_1) (.seq (.seq (.ops o40_2) (.cond (.tmp 12) (.seq (.ops o40_3) .ret) .skip)) (.seq (.ops o40_4) (.seq (.ops o40_5) (.seq (.seq (.ops o40_6) (.cond (.tmp 20) (.ops o40_7) .skip)) (.seq (.ops o40_8) (.seq (.seq (.ops o40_9) (.cond (.tmp 25) (.ops o40_10) .skip)) (.seq (.ops o40_11) (.seq (.seq (.ops o40_12) (.cond (.tmp 30) (.ops o40_13) .skip)) (.seq (.seq (.ops o40_14) (.cond (.tmp 36) (.ops o40_15) .skip)) (.seq (.seq (.ops o40_16) (.cond (.tmp 44) (.ops o40_17) .skip)) (.seq (.ops o40_18) .ret)))))))))))))⟩
theorem ir40_eq : fnsOf Tryz.prog 40 = some ir40 := by kernel_rfl


end Go.Proofs.YtcocakiincejaaaGreat
