/- The small machine's text of functions of the seat. -/
import Derived.Test.YtpphomoijlilfaaRows
import Derived.Test.YtpphomoijlilfaaVam25
import Derived.KernelRfl
namespace Go.Proofs.Ytpphomoijlilfaa
open Go Go.Vam
def o30_0 : List AOper := [⟨.box 55 (.tmp 0), (some 3), none⟩]
def d30_1 : List DOper := [⟨⟨.fieldAddr 0 (.tmp 3), (some 15), none⟩, 0⟩,
  ⟨⟨.load none (.tmp 15), (some 16), none⟩, 1⟩,
  ⟨⟨.bin .sub (.tmp 16) (.const (.int .i64 1)), (some 17), none⟩, 3⟩,
  ⟨⟨.fieldAddr 0 (.tmp 3), (some 18), none⟩, 0⟩,
  ⟨⟨.load none (.tmp 18), (some 19), none⟩, 8⟩,
  ⟨⟨.bin .add (.tmp 19) (.const (.int .i64 1)), (some 20), none⟩, 24⟩,
  ⟨⟨.move (.tmp 17), (some 6), none⟩, 7⟩,
  ⟨⟨.move (.tmp 20), (some 7), none⟩, 127⟩]
def o30_2 : List AOper := [⟨.fieldAddr 0 (.tmp 3), (some 21), none⟩,
  ⟨.load none (.tmp 21), (some 22), none⟩,
  ⟨.bin .eql (.tmp 22) (.const (.int .i64 0)), (some 23), none⟩]
def o30_3 : List AOper := [⟨.move (.tmp 1), (some 24), none⟩,
  ⟨.bin .sub (.tmp 24) (.const (.int .i64 1)), (some 25), none⟩,
  ⟨.move (.tmp 25), (some 6), none⟩]
def o30_4 : List AOper := [⟨.fieldAddr 0 (.tmp 3), (some 26), none⟩,
  ⟨.load none (.tmp 26), (some 27), none⟩,
  ⟨.move (.tmp 1), (some 28), none⟩,
  ⟨.bin .sub (.tmp 28) (.const (.int .i64 1)), (some 29), none⟩,
  ⟨.bin .eql (.tmp 27) (.tmp 29), (some 30), none⟩]
def o30_5 : List AOper := [⟨.move (.const (.int .i64 0)), (some 7), none⟩]
def o30_6 : List AOper := [⟨.fieldAddr 0 (.tmp 3), (some 31), none⟩,
  ⟨.load none (.tmp 31), (some 32), none⟩,
  ⟨.build [(.int .i64 0), (.int .i64 0), (.int .i64 0)] [(0, 1, (.tmp 32)), (1, 1, (.const (.int .i64 (-1)))), (2, 1, (.const (.int .i64 (-1))))], (some 33), none⟩,
  ⟨.alloc 76 [(.int .i64 0), (.int .i64 0), (.int .i64 0)], (some 8), none⟩,
  ⟨.store 3 (.tmp 8) (.tmp 33), none, none⟩]
def o30_7 : List AOper := [⟨.move (.const (.int .i64 1)), (some 9), none⟩]
def o30_8 : List AOper := [⟨.move (.tmp 6), (some 34), none⟩,
  ⟨.move (.tmp 7), (some 35), none⟩,
  ⟨.build [(.int .i64 0), (.int .i64 0)] [(0, 1, (.tmp 34)), (1, 1, (.tmp 35))], (some 36), none⟩,
  ⟨.move (.const (.int .i64 0)), (some 37), none⟩]
def o30_10 : List AOper := [⟨.bin .lss (.tmp 37) (.const (.int .i64 2)), (some 38), none⟩]
def o30_11 : List AOper := [⟨.idxArr 2 1 false (.tmp 36) (.tmp 37), (some 39), none⟩,
  ⟨.move (.tmp 39), (some 11), none⟩]
def o30_12 : List AOper := [⟨.move (.tmp 9), (some 40), none⟩,
  ⟨.slArr 3 1 (.tmp 8) none (some (.tmp 40)) none, (some 41), none⟩,
  ⟨.move (.tmp 11), (some 42), none⟩,
  ⟨.call (.func 52) [(.tmp 41), (.tmp 42)], (some 43), none⟩,
  ⟨.un .not (.tmp 43), (some 44), none⟩]
def o30_13 : List AOper := [⟨.move (.tmp 9), (some 45), none⟩,
  ⟨.move (.tmp 11), (some 46), none⟩,
  ⟨.addrArr 3 1 (.tmp 8) (.tmp 45), (some 47), none⟩,
  ⟨.store 1 (.tmp 47) (.tmp 46), none, none⟩]
def o30_14 : List AOper := [⟨.move (.tmp 9), (some 48), none⟩,
  ⟨.bin .add (.tmp 48) (.const (.int .i64 1)), (some 49), none⟩,
  ⟨.move (.tmp 49), (some 9), none⟩]
def o30_15 : List AOper := [⟨.bin .add (.tmp 37) (.const (.int .i64 1)), (some 50), none⟩,
  ⟨.move (.tmp 50), (some 37), none⟩]
def b30_9 : ACode := (.seq (.ops o30_10) (.seq (.cond (.tmp 38) .skip (.exit 0)) (.seq (.block 1 (.seq (.ops o30_11) (.seq (.ops o30_12) (.cond (.tmp 44) (.seq (.ops o30_13) (.ops o30_14)) .skip)))) (.ops o30_15))))
def o30_16 : List AOper := [⟨.move (.tmp 9), (some 51), none⟩,
  ⟨.slArr 3 1 (.tmp 8) none (some (.tmp 51)) none, (some 52), none⟩,
  ⟨.bu .len [(.tmp 52)], (some 53), none⟩,
  ⟨.move (.const (.int .i64 0)), (some 54), none⟩]
def o30_18 : List AOper := [⟨.bin .lss (.tmp 54) (.tmp 53), (some 55), none⟩]
def o30_19 : List AOper := [⟨.addrSl 1 (.tmp 52) (.tmp 54), (some 56), none⟩,
  ⟨.load none (.tmp 56), (some 57), none⟩,
  ⟨.move (.tmp 57), (some 13), none⟩]
def o30_20 : List AOper := [⟨.move (.const (.int .i64 (-1))), (some 14), none⟩]
def o30_22 : List AOper := [⟨.move (.tmp 14), (some 58), none⟩,
  ⟨.bin .leq (.tmp 58) (.const (.int .i64 1)), (some 59), none⟩]
def o30_23 : List AOper := [⟨.move (.tmp 13), (some 62), none⟩,
  ⟨.fieldAddr 0 (.tmp 3), (some 63), none⟩,
  ⟨.load none (.tmp 63), (some 64), none⟩,
  ⟨.bin .neq (.tmp 62) (.tmp 64), (some 65), none⟩,
  ⟨.move (.tmp 65), (some 66), none⟩,
  ⟨.move (.tmp 14), (some 67), (some (66, false))⟩,
  ⟨.bin .neq (.tmp 67) (.const (.int .i64 0)), (some 68), (some (66, false))⟩,
  ⟨.pick (.tmp 66) (.const (.bool true)) (.tmp 68), (some 69), none⟩]
def o30_24 : List AOper := [⟨.move (.tmp 2), (some 70), none⟩,
  ⟨.move (.tmp 13), (some 71), none⟩,
  ⟨.fieldAddr 1 (.tmp 3), (some 72), none⟩,
  ⟨.load none (.tmp 72), (some 73), none⟩,
  ⟨.move (.tmp 14), (some 74), none⟩,
  ⟨.bin .add (.tmp 73) (.tmp 74), (some 75), none⟩,
  ⟨.build [(.int .i64 0), (.int .i64 0)] [(0, 1, (.tmp 71)), (1, 1, (.tmp 75))], (some 76), none⟩,
  ⟨.call (.tmp 70) [(.tmp 76)], (some 77), none⟩]
def o30_25 : List AOper := [⟨.move (.tmp 14), (some 60), none⟩,
  ⟨.bin .add (.tmp 60) (.const (.int .i64 1)), (some 61), none⟩,
  ⟨.move (.tmp 61), (some 14), none⟩]
def b30_21 : ACode := (.seq (.seq (.ops o30_22) (.cond (.tmp 59) .skip (.exit 4))) (.seq (.block 5 (.seq (.ops o30_23) (.cond (.tmp 69) (.ops o30_24) .skip))) (.ops o30_25)))
def o30_26 : List AOper := [⟨.bin .add (.tmp 54) (.const (.int .i64 1)), (some 78), none⟩,
  ⟨.move (.tmp 78), (some 54), none⟩]
def b30_17 : ACode := (.seq (.ops o30_18) (.seq (.cond (.tmp 55) .skip (.exit 2)) (.seq (.block 3 (.seq (.ops o30_19) (.seq (.ops o30_20) (.block 4 (.loop b30_21))))) (.ops o30_26))))
def ir30 : AFn := ⟨79, [], (.seq (.ops o30_0) (.seq (.draw d30_1) (.seq (.seq (.ops o30_2) (.cond (.tmp 23) (.ops o30_3) .skip)) (.seq (.seq (.ops o30_4) (.cond (.tmp 30) (.ops o30_5) .skip)) (.seq (.ops o30_6) (.seq (.ops o30_7) (.seq (.seq (.ops o30_8) (.block 0 (.loop b30_9))) (.seq (.ops o30_16) (.block 2 (.loop b30_17))))))))))⟩
theorem ir30_eq : fnsOf Try.prog 30 = some ir30 := by kernel_rfl
def o52_0 : List AOper := [⟨.move (.const (.bool false)), (some 4), none⟩]
def o52_1 : List AOper := [⟨.move (.tmp 0), (some 5), none⟩,
  ⟨.move (.tmp 1), (some 6), none⟩,
  ⟨.call (.func 60) [(.tmp 5), (.tmp 6)], (some 7), none⟩,
  ⟨.bin .geq (.tmp 7) (.const (.int .i64 0)), (some 8), none⟩,
  ⟨.move (.tmp 8), (some 4), none⟩]
def ir52 : AFn := ⟨9, [.tmp 4], (.seq (.ops o52_0) (.seq (.ops o52_1) .ret))⟩
theorem ir52_eq : fnsOf Try.prog 52 = some ir52 := by kernel_rfl
def o60_0 : List AOper := [⟨.move (.const (.int .i64 0)), (some 4), none⟩]
def o60_1 : List AOper := [⟨.move (.tmp 0), (some 6), none⟩,
  ⟨.bu .len [(.tmp 6)], (some 7), none⟩,
  ⟨.move (.const (.int .i64 0)), (some 8), none⟩]
def o60_3 : List AOper := [⟨.bin .lss (.tmp 8) (.tmp 7), (some 9), none⟩]
def o60_4 : List AOper := [⟨.move (.tmp 8), (some 10), none⟩,
  ⟨.move (.tmp 10), (some 5), none⟩]
def o60_5 : List AOper := [⟨.move (.tmp 1), (some 11), none⟩,
  ⟨.move (.tmp 0), (some 12), none⟩,
  ⟨.move (.tmp 5), (some 13), none⟩,
  ⟨.addrSl 1 (.tmp 12) (.tmp 13), (some 14), none⟩,
  ⟨.load none (.tmp 14), (some 15), none⟩,
  ⟨.bin .eql (.tmp 11) (.tmp 15), (some 16), none⟩]
def o60_6 : List AOper := [⟨.move (.tmp 5), (some 17), none⟩,
  ⟨.move (.tmp 17), (some 4), none⟩]
def o60_7 : List AOper := [⟨.bin .add (.tmp 8) (.const (.int .i64 1)), (some 18), none⟩,
  ⟨.move (.tmp 18), (some 8), none⟩]
def b60_2 : ACode := (.seq (.ops o60_3) (.seq (.cond (.tmp 9) .skip (.exit 0)) (.seq (.block 1 (.seq (.ops o60_4) (.seq (.ops o60_5) (.cond (.tmp 16) (.seq (.ops o60_6) .ret) .skip)))) (.ops o60_7))))
def o60_8 : List AOper := [⟨.move (.const (.int .i64 (-1))), (some 4), none⟩]
def ir60 : AFn := ⟨19, [.tmp 4], (.seq (.ops o60_0) (.seq (.seq (.ops o60_1) (.block 0 (.loop b60_2))) (.seq (.ops o60_8) .ret)))⟩
theorem ir60_eq : fnsOf Try.prog 60 = some ir60 := by kernel_rfl
end Go.Proofs.Ytpphomoijlilfaa

/- The small machine's text of functions of the seat. -/
namespace Go.Proofs.Ytpphomoijlilfaa
open Go Go.Vam
def o13_0 : List AOper := [⟨.move (.const (.bool false)), (some 4), none⟩]
def o13_1 : List AOper := [⟨.move (.tmp 0), (some 6), none⟩,
  ⟨.bu .len [(.tmp 6)], (some 7), none⟩,
  ⟨.move (.tmp 1), (some 8), none⟩,
  ⟨.bu .len [(.tmp 8)], (some 9), none⟩,
  ⟨.bin .neq (.tmp 7) (.tmp 9), (some 10), none⟩]
def o13_2 : List AOper := [⟨.move (.const (.bool false)), (some 4), none⟩]
def o13_3 : List AOper := [⟨.move (.const (.int .i64 0)), (some 5), none⟩]
def o13_5 : List AOper := [⟨.move (.tmp 5), (some 11), none⟩,
  ⟨.move (.tmp 0), (some 12), none⟩,
  ⟨.bu .len [(.tmp 12)], (some 13), none⟩,
  ⟨.bin .lss (.tmp 11) (.tmp 13), (some 14), none⟩]
def d13_6 : List DOper := [⟨⟨.move (.tmp 0), (some 17), none⟩, 0⟩,
  ⟨⟨.move (.tmp 5), (some 18), none⟩, 0⟩,
  ⟨⟨.addrSl 3 (.tmp 17) (.tmp 18), (some 19), none⟩, 3⟩,
  ⟨⟨.fieldAddr 0 (.tmp 19), (some 20), none⟩, 7⟩,
  ⟨⟨.load none (.tmp 20), (some 21), none⟩, 15⟩,
  ⟨⟨.move (.tmp 1), (some 22), none⟩, 0⟩,
  ⟨⟨.move (.tmp 5), (some 23), none⟩, 0⟩,
  ⟨⟨.addrSl 3 (.tmp 22) (.tmp 23), (some 24), none⟩, 96⟩,
  ⟨⟨.fieldAddr 0 (.tmp 24), (some 25), none⟩, 224⟩,
  ⟨⟨.load none (.tmp 25), (some 26), none⟩, 480⟩,
  ⟨⟨.bin .neq (.tmp 21) (.tmp 26), (some 27), none⟩, 1023⟩,
  ⟨⟨.move (.tmp 27), (some 28), none⟩, 2047⟩,
  ⟨⟨.move (.tmp 0), (some 29), (some (28, false))⟩, 4095⟩,
  ⟨⟨.move (.tmp 5), (some 30), (some (28, false))⟩, 4095⟩,
  ⟨⟨.addrSl 3 (.tmp 29) (.tmp 30), (some 31), (some (28, false))⟩, 16383⟩,
  ⟨⟨.fieldAddr 1 (.tmp 31), (some 32), (some (28, false))⟩, 32767⟩,
  ⟨⟨.load none (.tmp 32), (some 33), (some (28, false))⟩, 65535⟩,
  ⟨⟨.move (.tmp 1), (some 34), (some (28, false))⟩, 4095⟩,
  ⟨⟨.move (.tmp 5), (some 35), (some (28, false))⟩, 4095⟩,
  ⟨⟨.addrSl 3 (.tmp 34) (.tmp 35), (some 36), (some (28, false))⟩, 397311⟩,
  ⟨⟨.fieldAddr 1 (.tmp 36), (some 37), (some (28, false))⟩, 921599⟩,
  ⟨⟨.load none (.tmp 37), (some 38), (some (28, false))⟩, 1970175⟩,
  ⟨⟨.bin .neq (.tmp 33) (.tmp 38), (some 39), (some (28, false))⟩, 4194303⟩,
  ⟨⟨.pick (.tmp 28) (.const (.bool true)) (.tmp 39), (some 40), none⟩, 8388607⟩,
  ⟨⟨.move (.tmp 40), (some 41), none⟩, 16777215⟩,
  ⟨⟨.move (.tmp 0), (some 42), (some (41, false))⟩, 33554431⟩,
  ⟨⟨.move (.tmp 5), (some 43), (some (41, false))⟩, 33554431⟩,
  ⟨⟨.addrSl 3 (.tmp 42) (.tmp 43), (some 44), (some (41, false))⟩, 134217727⟩,
  ⟨⟨.fieldAddr 2 (.tmp 44), (some 45), (some (41, false))⟩, 268435455⟩,
  ⟨⟨.load none (.tmp 45), (some 46), (some (41, false))⟩, 536870911⟩,
  ⟨⟨.move (.tmp 1), (some 47), (some (41, false))⟩, 33554431⟩,
  ⟨⟨.move (.tmp 5), (some 48), (some (41, false))⟩, 33554431⟩,
  ⟨⟨.addrSl 3 (.tmp 47) (.tmp 48), (some 49), (some (41, false))⟩, 3254779903⟩,
  ⟨⟨.fieldAddr 2 (.tmp 49), (some 50), (some (41, false))⟩, 7549747199⟩,
  ⟨⟨.load none (.tmp 50), (some 51), (some (41, false))⟩, 16139681791⟩,
  ⟨⟨.call (.func 22) [(.tmp 46), (.tmp 51)], (some 52), (some (41, false))⟩, 34359738367⟩,
  ⟨⟨.un .not (.tmp 52), (some 53), (some (41, false))⟩, 68719476735⟩,
  ⟨⟨.pick (.tmp 41) (.const (.bool true)) (.tmp 53), (some 54), none⟩, 137438953471⟩]
def o13_7 : List AOper := [⟨.move (.const (.bool false)), (some 4), none⟩]
def o13_8 : List AOper := [⟨.move (.tmp 5), (some 15), none⟩,
  ⟨.bin .add (.tmp 15) (.const (.int .i64 1)), (some 16), none⟩,
  ⟨.move (.tmp 16), (some 5), none⟩]
def b13_4 : ACode := (.seq (.seq (.ops o13_5) (.cond (.tmp 14) .skip (.exit 0))) (.seq (.block 1 (.seq (.draw d13_6) (.cond (.tmp 54) (.seq (.ops o13_7) .ret) .skip))) (.ops o13_8)))
def o13_9 : List AOper := [⟨.move (.const (.bool true)), (some 4), none⟩]
def ir13 : AFn := ⟨55, [.tmp 4], (.seq (.ops o13_0) (.seq (.seq (.ops o13_1) (.cond (.tmp 10) (.seq (.ops o13_2) .ret) .skip)) (.seq (.seq (.ops o13_3) (.block 0 (.loop b13_4))) (.seq (.ops o13_9) .ret))))⟩
theorem ir13_eq : fnsOf Try.prog 13 = some ir13 := by kernel_rfl
def o22_0 : List AOper := [⟨.move (.const (.bool false)), (some 4), none⟩]
def o22_1 : List AOper := [⟨.move (.tmp 0), (some 5), none⟩,
  ⟨.move (.tmp 0), (some 6), none⟩,
  ⟨.bin .neq (.tmp 5) (.tmp 6), (some 7), none⟩,
  ⟨.move (.tmp 7), (some 8), none⟩,
  ⟨.move (.tmp 1), (some 9), (some (8, false))⟩,
  ⟨.move (.tmp 1), (some 10), (some (8, false))⟩,
  ⟨.bin .neq (.tmp 9) (.tmp 10), (some 11), (some (8, false))⟩,
  ⟨.pick (.tmp 8) (.const (.bool true)) (.tmp 11), (some 12), none⟩]
def o22_2 : List AOper := [⟨.move (.tmp 0), (some 13), none⟩,
  ⟨.move (.tmp 0), (some 14), none⟩,
  ⟨.bin .neq (.tmp 13) (.tmp 14), (some 15), none⟩,
  ⟨.move (.tmp 15), (some 16), none⟩,
  ⟨.move (.tmp 1), (some 17), (some (16, true))⟩,
  ⟨.move (.tmp 1), (some 18), (some (16, true))⟩,
  ⟨.bin .neq (.tmp 17) (.tmp 18), (some 19), (some (16, true))⟩,
  ⟨.pick (.tmp 16) (.tmp 19) (.const (.bool false)), (some 20), none⟩,
  ⟨.move (.tmp 20), (some 4), none⟩]
def o22_3 : List AOper := [⟨.move (.tmp 0), (some 21), none⟩,
  ⟨.ext 0 50 [(.tmp 21)], (some 22), none⟩,
  ⟨.move (.tmp 1), (some 23), none⟩,
  ⟨.ext 0 50 [(.tmp 23)], (some 24), none⟩,
  ⟨.bin .eql (.tmp 22) (.tmp 24), (some 25), none⟩,
  ⟨.move (.tmp 25), (some 4), none⟩]
def ir22 : AFn := ⟨26, [.tmp 4], (.seq (.ops o22_0) (.seq (.seq (.ops o22_1) (.cond (.tmp 12) (.seq (.ops o22_2) .ret) .skip)) (.seq (.ops o22_3) .ret)))⟩
theorem ir22_eq : fnsOf Try.prog 22 = some ir22 := by kernel_rfl
def o53_0 : List AOper := [⟨.box 29 (.tmp 0), (some 2), none⟩,
  ⟨.box 29 (.tmp 1), (some 3), none⟩,
  ⟨.move (.const (.bool false)), (some 4), none⟩]
def o53_1 : List AOper := [⟨.fieldAddr 0 (.tmp 2), (some 5), none⟩,
  ⟨.load none (.tmp 5), (some 6), none⟩,
  ⟨.fieldAddr 0 (.tmp 3), (some 7), none⟩,
  ⟨.load none (.tmp 7), (some 8), none⟩,
  ⟨.bin .lss (.tmp 6) (.tmp 8), (some 9), none⟩,
  ⟨.move (.tmp 9), (some 10), none⟩,
  ⟨.fieldAddr 0 (.tmp 2), (some 11), (some (10, false))⟩,
  ⟨.load none (.tmp 11), (some 12), (some (10, false))⟩,
  ⟨.fieldAddr 0 (.tmp 3), (some 13), (some (10, false))⟩,
  ⟨.load none (.tmp 13), (some 14), (some (10, false))⟩,
  ⟨.bin .eql (.tmp 12) (.tmp 14), (some 15), (some (10, false))⟩,
  ⟨.move (.tmp 15), (some 16), (some (10, false))⟩,
  ⟨.fieldAddr 1 (.tmp 2), (some 17), (some (16, true))⟩,
  ⟨.load none (.tmp 17), (some 18), (some (16, true))⟩,
  ⟨.fieldAddr 1 (.tmp 3), (some 19), (some (16, true))⟩,
  ⟨.load none (.tmp 19), (some 20), (some (16, true))⟩,
  ⟨.bin .lss (.tmp 18) (.tmp 20), (some 21), (some (16, true))⟩,
  ⟨.pick (.tmp 16) (.tmp 21) (.const (.bool false)), (some 22), (some (10, false))⟩,
  ⟨.pick (.tmp 10) (.const (.bool true)) (.tmp 22), (some 23), none⟩,
  ⟨.move (.tmp 23), (some 4), none⟩]
def ir53 : AFn := ⟨24, [.tmp 4], (.seq (.ops o53_0) (.seq (.ops o53_1) .ret))⟩
theorem ir53_eq : fnsOf Try.prog 53 = some ir53 := by kernel_rfl
end Go.Proofs.Ytpphomoijlilfaa

/- The small machine's text of functions of the seat. -/
namespace Go.Proofs.Ytpphomoijlilfaa
open Go Go.Vam
def o16_0 : List AOper := [⟨.move (.const (.slice none 0 0)), (some 2), none⟩]
def o16_1 : List AOper := [⟨.buildSlice 29 3 [(.int .i64 0), (.int .i64 0), (.float .f64 0)] 0 [], (some 4), none⟩,
  ⟨.move (.tmp 0), (some 5), none⟩,
  ⟨.append 29 24 3 [(.int .i64 0), (.int .i64 0), (.float .f64 0)] (.tmp 4) (.tmp 5), (some 6), none⟩,
  ⟨.build [(.int .i64 0), (.int .i64 0), (.float .f64 0)] [(0, 1, (.const (.int .i64 77)))], (some 7), none⟩,
  ⟨.buildSlice 29 3 [(.int .i64 0), (.int .i64 0), (.float .f64 0)] 1 [(0, (.tmp 7))], (some 8), none⟩,
  ⟨.append 29 24 3 [(.int .i64 0), (.int .i64 0), (.float .f64 0)] (.tmp 6) (.tmp 8), (some 9), none⟩,
  ⟨.move (.tmp 9), (some 3), none⟩]
def o16_2 : List AOper := [⟨.move (.tmp 3), (some 10), none⟩,
  ⟨.move (.tmp 0), (some 11), none⟩,
  ⟨.bu .len [(.tmp 11)], (some 12), none⟩,
  ⟨.slSl 3 (.tmp 10) none (some (.tmp 12)) none, (some 13), none⟩,
  ⟨.move (.tmp 13), (some 2), none⟩]
def ir16 : AFn := ⟨14, [.tmp 2], (.seq (.ops o16_0) (.seq (.ops o16_1) (.seq (.ops o16_2) .ret)))⟩
theorem ir16_eq : fnsOf Try.prog 16 = some ir16 := by kernel_rfl
def o19_0 : List AOper := [⟨.move (.const (.bool false)), (some 4), none⟩]
def o19_1 : List AOper := [⟨.move (.tmp 0), (some 5), none⟩,
  ⟨.move (.tmp 1), (some 6), none⟩,
  ⟨.call (.func 13) [(.tmp 5), (.tmp 6)], (some 7), none⟩,
  ⟨.move (.tmp 7), (some 8), none⟩,
  ⟨.move (.tmp 0), (some 9), (some (8, true))⟩,
  ⟨.move (.tmp 1), (some 10), (some (8, true))⟩,
  ⟨.bu .len [(.tmp 10)], (some 11), (some (8, true))⟩,
  ⟨.bin .add (.tmp 11) (.const (.int .i64 1)), (some 12), (some (8, true))⟩,
  ⟨.slSl 3 (.tmp 9) none (some (.tmp 12)) none, (some 13), (some (8, true))⟩,
  ⟨.move (.tmp 1), (some 14), (some (8, true))⟩,
  ⟨.bu .len [(.tmp 14)], (some 15), (some (8, true))⟩,
  ⟨.addrSl 3 (.tmp 13) (.tmp 15), (some 16), (some (8, true))⟩,
  ⟨.fieldAddr 0 (.tmp 16), (some 17), (some (8, true))⟩,
  ⟨.load none (.tmp 17), (some 18), (some (8, true))⟩,
  ⟨.bin .eql (.tmp 18) (.const (.int .i64 77)), (some 19), (some (8, true))⟩,
  ⟨.pick (.tmp 8) (.tmp 19) (.const (.bool false)), (some 20), none⟩,
  ⟨.move (.tmp 20), (some 4), none⟩]
def ir19 : AFn := ⟨21, [.tmp 4], (.seq (.ops o19_0) (.seq (.ops o19_1) .ret))⟩
theorem ir19_eq : fnsOf Try.prog 19 = some ir19 := by kernel_rfl
end Go.Proofs.Ytpphomoijlilfaa

/- The small machine's text of functions of the seat. -/
namespace Go.Proofs.Ytpphomoijlilfaa
open Go Go.Vam
def o17_0 : List AOper := [⟨.move (.const (.slice none 0 0)), (some 4), none⟩]
def o17_1 : List AOper := [⟨.makeMap, (some 14), none⟩,
  ⟨.alloc 60 [(.map none)], (some 5), none⟩,
  ⟨.store 1 (.tmp 5) (.tmp 14), none, none⟩]
def o17_2 : List AOper := [⟨.alloc 25 [(.slice none 0 0)], (some 6), none⟩]
def o17_3 : List AOper := [⟨.move (.tmp 0), (some 15), none⟩,
  ⟨.bu .len [(.tmp 15)], (some 16), none⟩,
  ⟨.move (.const (.int .i64 0)), (some 17), none⟩]
def o17_5 : List AOper := [⟨.bin .lss (.tmp 17) (.tmp 16), (some 18), none⟩]
def o17_6 : List AOper := [⟨.addrSl 3 (.tmp 15) (.tmp 17), (some 19), none⟩,
  ⟨.load (some 3) (.tmp 19), (some 20), none⟩,
  ⟨.alloc 29 [(.int .i64 0), (.int .i64 0), (.float .f64 0)], (some 8), none⟩,
  ⟨.store 3 (.tmp 8) (.tmp 20), none, none⟩]
def o17_7 : List AOper := [⟨.fieldAddr 0 (.tmp 8), (some 21), none⟩,
  ⟨.load none (.tmp 21), (some 22), none⟩,
  ⟨.fieldAddr 1 (.tmp 8), (some 23), none⟩,
  ⟨.load none (.tmp 23), (some 24), none⟩,
  ⟨.build [(.int .i64 0), (.int .i64 0)] [(0, 1, (.tmp 22)), (1, 1, (.tmp 24))], (some 25), none⟩,
  ⟨.alloc 55 [(.int .i64 0), (.int .i64 0)], (some 9), none⟩,
  ⟨.store 2 (.tmp 9) (.tmp 25), none, none⟩]
def o17_8 : List AOper := [⟨.fieldAddr 0 (.tmp 8), (some 26), none⟩,
  ⟨.load none (.tmp 26), (some 27), none⟩,
  ⟨.bin .lss (.tmp 27) (.const (.int .i64 0)), (some 28), none⟩,
  ⟨.move (.tmp 28), (some 29), none⟩,
  ⟨.fieldAddr 0 (.tmp 8), (some 30), (some (29, false))⟩,
  ⟨.load none (.tmp 30), (some 31), (some (29, false))⟩,
  ⟨.move (.tmp 1), (some 32), (some (29, false))⟩,
  ⟨.bin .geq (.tmp 31) (.tmp 32), (some 33), (some (29, false))⟩,
  ⟨.pick (.tmp 29) (.const (.bool true)) (.tmp 33), (some 34), none⟩,
  ⟨.move (.tmp 34), (some 35), none⟩,
  ⟨.fieldAddr 1 (.tmp 8), (some 36), (some (35, false))⟩,
  ⟨.load none (.tmp 36), (some 37), (some (35, false))⟩,
  ⟨.bin .lss (.tmp 37) (.const (.int .i64 0)), (some 38), (some (35, false))⟩,
  ⟨.pick (.tmp 35) (.const (.bool true)) (.tmp 38), (some 39), none⟩,
  ⟨.move (.tmp 39), (some 40), none⟩,
  ⟨.load none (.tmp 5), (some 41), (some (40, false))⟩,
  ⟨.load (some 2) (.tmp 9), (some 42), (some (40, false))⟩,
  ⟨.lookup (.struct [(0, none, .int), (1, none, .int)]) (.int .i64 0) false (.tmp 41) (.tmp 42), (some 43), (some (40, false))⟩,
  ⟨.bin .gtr (.tmp 43) (.const (.int .i64 0)), (some 44), (some (40, false))⟩,
  ⟨.pick (.tmp 40) (.const (.bool true)) (.tmp 44), (some 45), none⟩]
def o17_9 : List AOper := [⟨.load none (.tmp 6), (some 46), none⟩,
  ⟨.load (some 3) (.tmp 8), (some 47), none⟩,
  ⟨.buildSlice 29 3 [(.int .i64 0), (.int .i64 0), (.float .f64 0)] 1 [(0, (.tmp 47))], (some 48), none⟩,
  ⟨.append 29 24 3 [(.int .i64 0), (.int .i64 0), (.float .f64 0)] (.tmp 46) (.tmp 48), (some 49), none⟩,
  ⟨.store 1 (.tmp 6) (.tmp 49), none, none⟩]
def o17_10 : List AOper := [⟨.load none (.tmp 5), (some 50), none⟩,
  ⟨.load (some 2) (.tmp 9), (some 51), none⟩,
  ⟨.load none (.tmp 6), (some 52), none⟩,
  ⟨.bu .len [(.tmp 52)], (some 53), none⟩,
  ⟨.mapPut (.struct [(0, none, .int), (1, none, .int)]) (.tmp 50) (.tmp 51) (.tmp 53), none, none⟩]
def o17_11 : List AOper := [⟨.bin .add (.tmp 17) (.const (.int .i64 1)), (some 54), none⟩,
  ⟨.move (.tmp 54), (some 17), none⟩]
def b17_4 : ACode := (.seq (.ops o17_5) (.seq (.cond (.tmp 18) .skip (.exit 0)) (.seq (.block 1 (.seq (.ops o17_6) (.seq (.ops o17_7) (.seq (.seq (.ops o17_8) (.cond (.tmp 45) (.exit 1) .skip)) (.seq (.ops o17_9) (.ops o17_10)))))) (.ops o17_11))))
def o17_12 : List AOper := [⟨.move (.const (.slice none 0 0)), (some 10), none⟩]
def o17_13 : List AOper := [⟨.load none (.tmp 6), (some 55), none⟩,
  ⟨.bu .len [(.tmp 55)], (some 56), none⟩,
  ⟨.move (.const (.int .i64 0)), (some 57), none⟩]
def o17_15 : List AOper := [⟨.bin .lss (.tmp 57) (.tmp 56), (some 58), none⟩]
def o17_16 : List AOper := [⟨.move (.tmp 57), (some 59), none⟩,
  ⟨.move (.tmp 59), (some 11), none⟩]
def d17_17 : List DOper := [⟨⟨.load none (.tmp 5), (some 60), none⟩, 0⟩,
  ⟨⟨.load none (.tmp 6), (some 61), none⟩, 0⟩,
  ⟨⟨.move (.tmp 11), (some 62), none⟩, 0⟩,
  ⟨⟨.addrSl 3 (.tmp 61) (.tmp 62), (some 63), none⟩, 6⟩,
  ⟨⟨.fieldAddr 0 (.tmp 63), (some 64), none⟩, 14⟩,
  ⟨⟨.load none (.tmp 64), (some 65), none⟩, 30⟩,
  ⟨⟨.load none (.tmp 6), (some 66), none⟩, 0⟩,
  ⟨⟨.move (.tmp 11), (some 67), none⟩, 0⟩,
  ⟨⟨.addrSl 3 (.tmp 66) (.tmp 67), (some 68), none⟩, 192⟩,
  ⟨⟨.fieldAddr 1 (.tmp 68), (some 69), none⟩, 448⟩,
  ⟨⟨.load none (.tmp 69), (some 70), none⟩, 960⟩,
  ⟨⟨.build [(.int .i64 0), (.int .i64 0)] [(0, 1, (.tmp 65)), (1, 1, (.tmp 70))], (some 71), none⟩, 2046⟩,
  ⟨⟨.lookup (.struct [(0, none, .int), (1, none, .int)]) (.int .i64 0) false (.tmp 60) (.tmp 71), (some 72), none⟩, 4095⟩,
  ⟨⟨.bin .eql (.tmp 72) (.const (.int .i64 0)), (some 73), none⟩, 8191⟩]
def o17_18 : List AOper := [⟨.load none (.tmp 6), (some 74), none⟩,
  ⟨.move (.tmp 11), (some 75), none⟩,
  ⟨.addrSl 3 (.tmp 74) (.tmp 75), (some 76), none⟩,
  ⟨.load (some 3) (.tmp 76), (some 77), none⟩,
  ⟨.buildSlice 29 3 [(.int .i64 0), (.int .i64 0), (.float .f64 0)] 1 [(0, (.tmp 77))], (some 78), none⟩,
  ⟨.alloc 25 [(.slice none 0 0)], (some 12), none⟩,
  ⟨.store 1 (.tmp 12) (.tmp 78), none, none⟩]
def d17_19 : List DOper := [⟨⟨.load none (.tmp 5), (some 79), none⟩, 0⟩,
  ⟨⟨.load none (.tmp 6), (some 80), none⟩, 0⟩,
  ⟨⟨.move (.tmp 11), (some 81), none⟩, 0⟩,
  ⟨⟨.addrSl 3 (.tmp 80) (.tmp 81), (some 82), none⟩, 6⟩,
  ⟨⟨.fieldAddr 0 (.tmp 82), (some 83), none⟩, 14⟩,
  ⟨⟨.load none (.tmp 83), (some 84), none⟩, 30⟩,
  ⟨⟨.load none (.tmp 6), (some 85), none⟩, 0⟩,
  ⟨⟨.move (.tmp 11), (some 86), none⟩, 0⟩,
  ⟨⟨.addrSl 3 (.tmp 85) (.tmp 86), (some 87), none⟩, 192⟩,
  ⟨⟨.fieldAddr 1 (.tmp 87), (some 88), none⟩, 448⟩,
  ⟨⟨.load none (.tmp 88), (some 89), none⟩, 960⟩,
  ⟨⟨.build [(.int .i64 0), (.int .i64 0)] [(0, 1, (.tmp 84)), (1, 1, (.tmp 89))], (some 90), none⟩, 2046⟩,
  ⟨⟨.mapDel (.struct [(0, none, .int), (1, none, .int)]) (.tmp 79) (.tmp 90), none, none⟩, 4095⟩]
def o17_20 : List AOper := [⟨.move (.const (.int .i64 0)), (some 13), none⟩]
def o17_22 : List AOper := [⟨.move (.tmp 13), (some 91), none⟩,
  ⟨.load none (.tmp 12), (some 92), none⟩,
  ⟨.bu .len [(.tmp 92)], (some 93), none⟩,
  ⟨.bin .lss (.tmp 91) (.tmp 93), (some 94), none⟩]
def d17_23 : List DOper := [⟨⟨.load none (.tmp 12), (some 97), none⟩, 0⟩,
  ⟨⟨.move (.tmp 13), (some 98), none⟩, 0⟩,
  ⟨⟨.addrSl 3 (.tmp 97) (.tmp 98), (some 99), none⟩, 3⟩,
  ⟨⟨.fieldAddr 0 (.tmp 99), (some 100), none⟩, 7⟩,
  ⟨⟨.load none (.tmp 100), (some 101), none⟩, 15⟩,
  ⟨⟨.load none (.tmp 12), (some 102), none⟩, 0⟩,
  ⟨⟨.move (.tmp 13), (some 103), none⟩, 0⟩,
  ⟨⟨.addrSl 3 (.tmp 102) (.tmp 103), (some 104), none⟩, 96⟩,
  ⟨⟨.fieldAddr 1 (.tmp 104), (some 105), none⟩, 224⟩,
  ⟨⟨.load none (.tmp 105), (some 106), none⟩, 480⟩,
  ⟨⟨.build [(.int .i64 0), (.int .i64 0)] [(0, 1, (.tmp 101)), (1, 1, (.tmp 106))], (some 107), none⟩, 1023⟩,
  ⟨⟨.move (.tmp 1), (some 108), none⟩, 0⟩,
  ⟨⟨.mkFunc (.func 36) [] [(.tmp 5), (.tmp 12), (.tmp 6)], (some 109), none⟩, 0⟩,
  ⟨⟨.call (.func 30) [(.tmp 107), (.tmp 108), (.tmp 109)], (some 110), none⟩, 8191⟩]
def o17_24 : List AOper := [⟨.move (.tmp 13), (some 95), none⟩,
  ⟨.bin .add (.tmp 95) (.const (.int .i64 1)), (some 96), none⟩,
  ⟨.move (.tmp 96), (some 13), none⟩]
def b17_21 : ACode := (.seq (.seq (.ops o17_22) (.cond (.tmp 94) .skip (.exit 4))) (.seq (.block 5 (.draw d17_23)) (.ops o17_24)))
def o17_25 : List AOper := [⟨.load none (.tmp 12), (some 111), none⟩,
  ⟨.call (.func 37) [(.tmp 111), (.func 38)], (some 112), none⟩]
def o17_26 : List AOper := [⟨.move (.tmp 10), (some 113), none⟩,
  ⟨.load none (.tmp 12), (some 114), none⟩,
  ⟨.buildSlice 25 1 [(.slice none 0 0)] 1 [(0, (.tmp 114))], (some 115), none⟩,
  ⟨.append 25 24 1 [(.slice none 0 0)] (.tmp 113) (.tmp 115), (some 116), none⟩,
  ⟨.move (.tmp 116), (some 10), none⟩]
def o17_27 : List AOper := [⟨.bin .add (.tmp 57) (.const (.int .i64 1)), (some 117), none⟩,
  ⟨.move (.tmp 117), (some 57), none⟩]
def b17_14 : ACode := (.seq (.ops o17_15) (.seq (.cond (.tmp 58) .skip (.exit 2)) (.seq (.block 3 (.seq (.ops o17_16) (.seq (.seq (.draw d17_17) (.cond (.tmp 73) (.exit 3) .skip)) (.seq (.ops o17_18) (.seq (.draw d17_19) (.seq (.seq (.ops o17_20) (.block 4 (.loop b17_21))) (.seq (.ops o17_25) (.ops o17_26)))))))) (.ops o17_27))))
def o17_28 : List AOper := [⟨.move (.tmp 10), (some 118), none⟩,
  ⟨.call (.func 39) [(.tmp 118), (.func 40)], (some 119), none⟩]
def o17_29 : List AOper := [⟨.move (.tmp 10), (some 120), none⟩,
  ⟨.move (.tmp 120), (some 4), none⟩]
def ir17 : AFn := ⟨121, [.tmp 4], (.seq (.ops o17_0) (.seq (.ops o17_1) (.seq (.ops o17_2) (.seq (.seq (.ops o17_3) (.block 0 (.loop b17_4))) (.seq (.ops o17_12) (.seq (.seq (.ops o17_13) (.block 2 (.loop b17_14))) (.seq (.ops o17_28) (.seq (.ops o17_29) .ret))))))))⟩
theorem ir17_eq : fnsOf Try.prog 17 = some ir17 := by kernel_rfl
def o36_0 : List AOper := [⟨.box 55 (.tmp 0), (some 4), none⟩]
def o36_1 : List AOper := [⟨.load none (.tmp 1), (some 6), none⟩,
  ⟨.load (some 2) (.tmp 4), (some 7), none⟩,
  ⟨.lookup (.struct [(0, none, .int), (1, none, .int)]) (.int .i64 0) false (.tmp 6) (.tmp 7), (some 8), none⟩,
  ⟨.move (.tmp 8), (some 5), none⟩]
def o36_2 : List AOper := [⟨.move (.tmp 5), (some 9), none⟩,
  ⟨.bin .gtr (.tmp 9) (.const (.int .i64 0)), (some 10), none⟩]
def d36_3 : List DOper := [⟨⟨.load none (.tmp 2), (some 11), none⟩, 0⟩,
  ⟨⟨.load none (.tmp 3), (some 12), none⟩, 0⟩,
  ⟨⟨.move (.tmp 5), (some 13), none⟩, 0⟩,
  ⟨⟨.bin .sub (.tmp 13) (.const (.int .i64 1)), (some 14), none⟩, 4⟩,
  ⟨⟨.addrSl 3 (.tmp 12) (.tmp 14), (some 15), none⟩, 14⟩,
  ⟨⟨.load (some 3) (.tmp 15), (some 16), none⟩, 30⟩,
  ⟨⟨.buildSlice 29 3 [(.int .i64 0), (.int .i64 0), (.float .f64 0)] 1 [(0, (.tmp 16))], (some 17), none⟩, 62⟩,
  ⟨⟨.append 29 24 3 [(.int .i64 0), (.int .i64 0), (.float .f64 0)] (.tmp 11) (.tmp 17), (some 18), none⟩, 127⟩,
  ⟨⟨.store 1 (.tmp 2) (.tmp 18), none, none⟩, 255⟩]
def o36_4 : List AOper := [⟨.load none (.tmp 1), (some 19), none⟩,
  ⟨.load (some 2) (.tmp 4), (some 20), none⟩,
  ⟨.mapDel (.struct [(0, none, .int), (1, none, .int)]) (.tmp 19) (.tmp 20), none, none⟩]
def ir36 : AFn := ⟨21, [], (.seq (.ops o36_0) (.seq (.ops o36_1) (.seq (.ops o36_2) (.cond (.tmp 10) (.seq (.draw d36_3) (.ops o36_4)) .skip))))⟩
theorem ir36_eq : fnsOf Try.prog 36 = some ir36 := by kernel_rfl
end Go.Proofs.Ytpphomoijlilfaa

/- The small machine's text of functions of the seat. -/
namespace Go.Proofs.Ytpphomoijlilfaa
open Go Go.Vam
def o55_0 : List AOper := [⟨.move (.const (.int .i64 0)), (some 2), none⟩]
def o55_1 : List AOper := [⟨.move (.tmp 0), (some 3), none⟩,
  ⟨.conv (.toInt .u32) (.tmp 3), (some 4), none⟩,
  ⟨.call (.func 69) [(.tmp 4)], (some 5), none⟩,
  ⟨.move (.tmp 5), (some 2), none⟩]
def o55_2 : List AOper := [⟨.move (.tmp 0), (some 6), none⟩,
  ⟨.call (.func 70) [(.tmp 6)], (some 7), none⟩,
  ⟨.move (.tmp 7), (some 2), none⟩]
def ir55 : AFn := ⟨8, [.tmp 2], (.seq (.ops o55_0) (.seq (.cond (.const (.bool false)) (.seq (.ops o55_1) .ret) .skip) (.seq (.ops o55_2) .ret)))⟩
theorem ir55_eq : fnsOf Try.prog 55 = some ir55 := by kernel_rfl
def o70_0 : List AOper := [⟨.move (.const (.int .i64 0)), (some 2), none⟩]
def o70_1 : List AOper := [⟨.move (.tmp 0), (some 3), none⟩,
  ⟨.bin .geq (.tmp 3) (.const (.int .u64 4294967296)), (some 4), none⟩]
def o70_2 : List AOper := [⟨.move (.tmp 0), (some 5), none⟩,
  ⟨.bin .shr (.tmp 5) (.const (.int .u64 32)), (some 6), none⟩,
  ⟨.move (.tmp 6), (some 0), none⟩]
def o70_3 : List AOper := [⟨.move (.const (.int .i64 32)), (some 2), none⟩]
def o70_4 : List AOper := [⟨.move (.tmp 0), (some 7), none⟩,
  ⟨.bin .geq (.tmp 7) (.const (.int .u64 65536)), (some 8), none⟩]
def o70_5 : List AOper := [⟨.move (.tmp 0), (some 9), none⟩,
  ⟨.bin .shr (.tmp 9) (.const (.int .u64 16)), (some 10), none⟩,
  ⟨.move (.tmp 10), (some 0), none⟩]
def o70_6 : List AOper := [⟨.move (.tmp 2), (some 11), none⟩,
  ⟨.bin .add (.tmp 11) (.const (.int .i64 16)), (some 12), none⟩,
  ⟨.move (.tmp 12), (some 2), none⟩]
def o70_7 : List AOper := [⟨.move (.tmp 0), (some 13), none⟩,
  ⟨.bin .geq (.tmp 13) (.const (.int .u64 256)), (some 14), none⟩]
def o70_8 : List AOper := [⟨.move (.tmp 0), (some 15), none⟩,
  ⟨.bin .shr (.tmp 15) (.const (.int .u64 8)), (some 16), none⟩,
  ⟨.move (.tmp 16), (some 0), none⟩]
def o70_9 : List AOper := [⟨.move (.tmp 2), (some 17), none⟩,
  ⟨.bin .add (.tmp 17) (.const (.int .i64 8)), (some 18), none⟩,
  ⟨.move (.tmp 18), (some 2), none⟩]
def o70_10 : List AOper := [⟨.move (.tmp 2), (some 19), none⟩,
  ⟨.move (.tmp 0), (some 20), none⟩,
  ⟨.conv (.toInt .u8) (.tmp 20), (some 21), none⟩,
  ⟨.idxStr (.const (.string ⟨#[0, 1, 2, 2, 3, 3, 3, 3, 4, 4, 4, 4, 4, 4, 4, 4, 5, 5, 5, 5, 5, 5, 5, 5, 5, 5, 5, 5, 5, 5, 5, 5, 6, 6, 6, 6, 6, 6, 6, 6, 6, 6, 6, 6, 6, 6, 6, 6, 6, 6, 6, 6, 6, 6, 6, 6, 6, 6, 6, 6, 6, 6, 6, 6, 7, 7, 7, 7, 7, 7, 7, 7, 7, 7, 7, 7, 7, 7, 7, 7, 7, 7, 7, 7, 7, 7, 7, 7, 7, 7, 7, 7, 7, 7, 7, 7, 7, 7, 7, 7, 7, 7, 7, 7, 7, 7, 7, 7, 7, 7, 7, 7, 7, 7, 7, 7, 7, 7, 7, 7, 7, 7, 7, 7, 7, 7, 7, 7, 8, 8, 8, 8, 8, 8, 8, 8, 8, 8, 8, 8, 8, 8, 8, 8, 8, 8, 8, 8, 8, 8, 8, 8, 8, 8, 8, 8, 8, 8, 8, 8, 8, 8, 8, 8, 8, 8, 8, 8, 8, 8, 8, 8, 8, 8, 8, 8, 8, 8, 8, 8, 8, 8, 8, 8, 8, 8, 8, 8, 8, 8, 8, 8, 8, 8, 8, 8, 8, 8, 8, 8, 8, 8, 8, 8, 8, 8, 8, 8, 8, 8, 8, 8, 8, 8, 8, 8, 8, 8, 8, 8, 8, 8, 8, 8, 8, 8, 8, 8, 8, 8, 8, 8, 8, 8, 8, 8, 8, 8, 8, 8, 8, 8, 8, 8, 8, 8, 8, 8, 8, 8, 8, 8, 8, 8, 8, 8]⟩)) (.tmp 21), (some 22), none⟩,
  ⟨.conv (.toInt .i64) (.tmp 22), (some 23), none⟩,
  ⟨.bin .add (.tmp 19) (.tmp 23), (some 24), none⟩,
  ⟨.move (.tmp 24), (some 2), none⟩]
def ir70 : AFn := ⟨25, [.tmp 2], (.seq (.ops o70_0) (.seq (.seq (.ops o70_1) (.cond (.tmp 4) (.seq (.ops o70_2) (.ops o70_3)) .skip)) (.seq (.seq (.ops o70_4) (.cond (.tmp 8) (.seq (.ops o70_5) (.ops o70_6)) .skip)) (.seq (.seq (.ops o70_7) (.cond (.tmp 14) (.seq (.ops o70_8) (.ops o70_9)) .skip)) (.seq (.ops o70_10) .ret)))))⟩
theorem ir70_eq : fnsOf Try.prog 70 = some ir70 := by kernel_rfl
def o80_0 : List AOper := [⟨.move (.const (.int .u64 0)), (some 2), none⟩]
def o80_1 : List AOper := [⟨.move (.tmp 0), (some 3), none⟩,
  ⟨.conv (.toInt .u64) (.tmp 3), (some 4), none⟩,
  ⟨.call (.func 55) [(.tmp 4)], (some 5), none⟩,
  ⟨.bin .shl (.const (.int .u64 1)) (.tmp 5), (some 6), none⟩,
  ⟨.move (.tmp 6), (some 2), none⟩]
def ir80 : AFn := ⟨7, [.tmp 2], (.seq (.ops o80_0) (.seq (.ops o80_1) .ret))⟩
theorem ir80_eq : fnsOf Try.prog 80 = some ir80 := by kernel_rfl
def o81_0 : List AOper := [⟨.move (.const (.int .u64 0)), (some 2), none⟩]
def d81_1 : List DOper := [⟨⟨.move (.tmp 0), (some 3), none⟩, 0⟩,
  ⟨⟨.nilCheck (.tmp 3), (some 4), none⟩, 1⟩,
  ⟨⟨.load none (.tmp 4), (some 5), none⟩, 3⟩,
  ⟨⟨.move (.tmp 0), (some 6), none⟩, 0⟩,
  ⟨⟨.nilCheck (.tmp 6), (some 7), none⟩, 8⟩,
  ⟨⟨.load none (.tmp 7), (some 8), none⟩, 24⟩,
  ⟨⟨.bin .shl (.tmp 8) (.const (.int .u64 13)), (some 9), none⟩, 56⟩,
  ⟨⟨.bin .xor (.tmp 5) (.tmp 9), (some 10), none⟩, 127⟩,
  ⟨⟨.nilCheck (.tmp 3), (some 11), none⟩, 255⟩,
  ⟨⟨.store 1 (.tmp 11) (.tmp 10), none, none⟩, 511⟩]
def d81_2 : List DOper := [⟨⟨.move (.tmp 0), (some 12), none⟩, 0⟩,
  ⟨⟨.nilCheck (.tmp 12), (some 13), none⟩, 1⟩,
  ⟨⟨.load none (.tmp 13), (some 14), none⟩, 3⟩,
  ⟨⟨.move (.tmp 0), (some 15), none⟩, 0⟩,
  ⟨⟨.nilCheck (.tmp 15), (some 16), none⟩, 8⟩,
  ⟨⟨.load none (.tmp 16), (some 17), none⟩, 24⟩,
  ⟨⟨.bin .shr (.tmp 17) (.const (.int .u64 7)), (some 18), none⟩, 56⟩,
  ⟨⟨.bin .xor (.tmp 14) (.tmp 18), (some 19), none⟩, 127⟩,
  ⟨⟨.nilCheck (.tmp 12), (some 20), none⟩, 255⟩,
  ⟨⟨.store 1 (.tmp 20) (.tmp 19), none, none⟩, 511⟩]
def d81_3 : List DOper := [⟨⟨.move (.tmp 0), (some 21), none⟩, 0⟩,
  ⟨⟨.nilCheck (.tmp 21), (some 22), none⟩, 1⟩,
  ⟨⟨.load none (.tmp 22), (some 23), none⟩, 3⟩,
  ⟨⟨.move (.tmp 0), (some 24), none⟩, 0⟩,
  ⟨⟨.nilCheck (.tmp 24), (some 25), none⟩, 8⟩,
  ⟨⟨.load none (.tmp 25), (some 26), none⟩, 24⟩,
  ⟨⟨.bin .shl (.tmp 26) (.const (.int .u64 17)), (some 27), none⟩, 56⟩,
  ⟨⟨.bin .xor (.tmp 23) (.tmp 27), (some 28), none⟩, 127⟩,
  ⟨⟨.nilCheck (.tmp 21), (some 29), none⟩, 255⟩,
  ⟨⟨.store 1 (.tmp 29) (.tmp 28), none, none⟩, 511⟩]
def o81_4 : List AOper := [⟨.move (.tmp 0), (some 30), none⟩,
  ⟨.nilCheck (.tmp 30), (some 31), none⟩,
  ⟨.load none (.tmp 31), (some 32), none⟩,
  ⟨.move (.tmp 32), (some 2), none⟩]
def ir81 : AFn := ⟨33, [.tmp 2], (.seq (.ops o81_0) (.seq (.draw d81_1) (.seq (.draw d81_2) (.seq (.draw d81_3) (.seq (.ops o81_4) .ret)))))⟩
theorem ir81_eq : fnsOf Try.prog 81 = some ir81 := by kernel_rfl
end Go.Proofs.Ytpphomoijlilfaa
