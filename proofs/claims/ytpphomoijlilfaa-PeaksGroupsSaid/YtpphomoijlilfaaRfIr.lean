/- The small machine's text of functions of the seat. -/
import Derived.Test.YtpphomoijlilfaaRows
import Derived.Test.YtpphomoijlilfaaVam25
import Derived.KernelRfl
namespace Go.Proofs.Ytpphomoijlilfaa
open Go Go.Vam
def o18_0 : List AOper := [⟨.move (.const (.slice none 0 0)), (some 4), none⟩]
def o18_1 : List AOper := [⟨.move (.tmp 1), (some 15), none⟩,
  ⟨.bin .lss (.tmp 15) (.const (.int .i64 1)), (some 16), none⟩]
def o18_2 : List AOper := [⟨.move (.const (.slice none 0 0)), (some 4), none⟩]
def o18_3 : List AOper := [⟨.move (.tmp 0), (some 17), none⟩,
  ⟨.move (.tmp 1), (some 18), none⟩,
  ⟨.call (.func 41) [(.tmp 17), (.tmp 18)], (some 19), none⟩,
  ⟨.move (.tmp 19), (some 5), none⟩]
def o18_4 : List AOper := [⟨.move (.tmp 5), (some 20), none⟩,
  ⟨.bu .len [(.tmp 20)], (some 21), none⟩,
  ⟨.makeSlice 3 8 1 [(.int .i64 0)] (.tmp 21) (.tmp 21), (some 22), none⟩,
  ⟨.move (.tmp 22), (some 6), none⟩]
def o18_5 : List AOper := [⟨.move (.const (.slice none 0 0)), (some 7), none⟩]
def o18_6 : List AOper := [⟨.move (.const (.int .i64 0)), (some 8), none⟩]
def o18_8 : List AOper := [⟨.move (.tmp 8), (some 23), none⟩,
  ⟨.move (.tmp 5), (some 24), none⟩,
  ⟨.bu .len [(.tmp 24)], (some 25), none⟩,
  ⟨.bin .lss (.tmp 23) (.tmp 25), (some 26), none⟩]
def o18_9 : List AOper := [⟨.move (.tmp 6), (some 29), none⟩,
  ⟨.move (.tmp 8), (some 30), none⟩,
  ⟨.addrSl 1 (.tmp 29) (.tmp 30), (some 31), none⟩,
  ⟨.load none (.tmp 31), (some 32), none⟩,
  ⟨.bin .gtr (.tmp 32) (.const (.int .i64 0)), (some 33), none⟩]
def o18_10 : List AOper := [⟨.move (.tmp 7), (some 34), none⟩,
  ⟨.bu .len [(.tmp 34)], (some 35), none⟩,
  ⟨.bin .add (.tmp 35) (.const (.int .i64 1)), (some 36), none⟩,
  ⟨.move (.tmp 36), (some 9), none⟩]
def o18_11 : List AOper := [⟨.move (.tmp 6), (some 37), none⟩,
  ⟨.move (.tmp 8), (some 38), none⟩,
  ⟨.move (.tmp 9), (some 39), none⟩,
  ⟨.addrSl 1 (.tmp 37) (.tmp 38), (some 40), none⟩,
  ⟨.store 1 (.tmp 40) (.tmp 39), none, none⟩]
def o18_12 : List AOper := [⟨.move (.tmp 8), (some 41), none⟩,
  ⟨.buildSlice 3 1 [(.int .i64 0)] 1 [(0, (.tmp 41))], (some 42), none⟩,
  ⟨.move (.tmp 42), (some 10), none⟩]
def o18_13 : List AOper := [⟨.move (.const (.int .i64 0)), (some 11), none⟩]
def o18_15 : List AOper := [⟨.move (.tmp 11), (some 43), none⟩,
  ⟨.move (.tmp 10), (some 44), none⟩,
  ⟨.bu .len [(.tmp 44)], (some 45), none⟩,
  ⟨.bin .lss (.tmp 43) (.tmp 45), (some 46), none⟩]
def o18_16 : List AOper := [⟨.move (.tmp 5), (some 49), none⟩,
  ⟨.move (.tmp 5), (some 50), none⟩,
  ⟨.move (.tmp 10), (some 51), none⟩,
  ⟨.move (.tmp 11), (some 52), none⟩,
  ⟨.addrSl 1 (.tmp 51) (.tmp 52), (some 53), none⟩,
  ⟨.load none (.tmp 53), (some 54), none⟩,
  ⟨.addrSl 3 (.tmp 50) (.tmp 54), (some 55), none⟩,
  ⟨.load (some 3) (.tmp 55), (some 56), none⟩,
  ⟨.move (.tmp 1), (some 57), none⟩,
  ⟨.call (.func 42) [(.tmp 49), (.tmp 56), (.tmp 57)], (some 58), none⟩,
  ⟨.move (.tmp 58), (some 12), none⟩]
def o18_17 : List AOper := [⟨.move (.const (.int .i64 0)), (some 13), none⟩]
def o18_19 : List AOper := [⟨.move (.tmp 13), (some 59), none⟩,
  ⟨.move (.tmp 12), (some 60), none⟩,
  ⟨.bu .len [(.tmp 60)], (some 61), none⟩,
  ⟨.bin .lss (.tmp 59) (.tmp 61), (some 62), none⟩]
def o18_20 : List AOper := [⟨.move (.tmp 6), (some 65), none⟩,
  ⟨.move (.tmp 12), (some 66), none⟩,
  ⟨.move (.tmp 13), (some 67), none⟩,
  ⟨.addrSl 1 (.tmp 66) (.tmp 67), (some 68), none⟩,
  ⟨.load none (.tmp 68), (some 69), none⟩,
  ⟨.addrSl 1 (.tmp 65) (.tmp 69), (some 70), none⟩,
  ⟨.load none (.tmp 70), (some 71), none⟩,
  ⟨.bin .eql (.tmp 71) (.const (.int .i64 0)), (some 72), none⟩]
def o18_21 : List AOper := [⟨.move (.tmp 6), (some 73), none⟩,
  ⟨.move (.tmp 12), (some 74), none⟩,
  ⟨.move (.tmp 13), (some 75), none⟩,
  ⟨.addrSl 1 (.tmp 74) (.tmp 75), (some 76), none⟩,
  ⟨.load none (.tmp 76), (some 77), none⟩,
  ⟨.move (.tmp 9), (some 78), none⟩,
  ⟨.addrSl 1 (.tmp 73) (.tmp 77), (some 79), none⟩,
  ⟨.store 1 (.tmp 79) (.tmp 78), none, none⟩]
def o18_22 : List AOper := [⟨.move (.tmp 10), (some 80), none⟩,
  ⟨.move (.tmp 12), (some 81), none⟩,
  ⟨.move (.tmp 13), (some 82), none⟩,
  ⟨.addrSl 1 (.tmp 81) (.tmp 82), (some 83), none⟩,
  ⟨.load none (.tmp 83), (some 84), none⟩,
  ⟨.buildSlice 3 1 [(.int .i64 0)] 1 [(0, (.tmp 84))], (some 85), none⟩,
  ⟨.append 3 8 1 [(.int .i64 0)] (.tmp 80) (.tmp 85), (some 86), none⟩,
  ⟨.move (.tmp 86), (some 10), none⟩]
def o18_23 : List AOper := [⟨.move (.tmp 13), (some 63), none⟩,
  ⟨.bin .add (.tmp 63) (.const (.int .i64 1)), (some 64), none⟩,
  ⟨.move (.tmp 64), (some 13), none⟩]
def b18_18 : ACode := (.seq (.seq (.ops o18_19) (.cond (.tmp 62) .skip (.exit 4))) (.seq (.block 5 (.seq (.ops o18_20) (.cond (.tmp 72) (.seq (.ops o18_21) (.ops o18_22)) .skip))) (.ops o18_23)))
def o18_24 : List AOper := [⟨.move (.tmp 11), (some 47), none⟩,
  ⟨.bin .add (.tmp 47) (.const (.int .i64 1)), (some 48), none⟩,
  ⟨.move (.tmp 48), (some 11), none⟩]
def b18_14 : ACode := (.seq (.seq (.ops o18_15) (.cond (.tmp 46) .skip (.exit 2))) (.seq (.block 3 (.seq (.ops o18_16) (.seq (.ops o18_17) (.block 4 (.loop b18_18))))) (.ops o18_24)))
def o18_25 : List AOper := [⟨.move (.tmp 7), (some 87), none⟩,
  ⟨.buildSlice 25 1 [(.slice none 0 0)] 1 [(0, (.const (.slice none 0 0)))], (some 88), none⟩,
  ⟨.append 25 24 1 [(.slice none 0 0)] (.tmp 87) (.tmp 88), (some 89), none⟩,
  ⟨.move (.tmp 89), (some 7), none⟩]
def o18_26 : List AOper := [⟨.move (.tmp 8), (some 27), none⟩,
  ⟨.bin .add (.tmp 27) (.const (.int .i64 1)), (some 28), none⟩,
  ⟨.move (.tmp 28), (some 8), none⟩]
def b18_7 : ACode := (.seq (.seq (.ops o18_8) (.cond (.tmp 26) .skip (.exit 0))) (.seq (.block 1 (.seq (.seq (.ops o18_9) (.cond (.tmp 33) (.exit 1) .skip)) (.seq (.ops o18_10) (.seq (.ops o18_11) (.seq (.ops o18_12) (.seq (.seq (.ops o18_13) (.block 2 (.loop b18_14))) (.ops o18_25))))))) (.ops o18_26)))
def o18_27 : List AOper := [⟨.move (.const (.int .i64 0)), (some 14), none⟩]
def o18_29 : List AOper := [⟨.move (.tmp 14), (some 90), none⟩,
  ⟨.move (.tmp 5), (some 91), none⟩,
  ⟨.bu .len [(.tmp 91)], (some 92), none⟩,
  ⟨.bin .lss (.tmp 90) (.tmp 92), (some 93), none⟩]
def d18_30 : List DOper := [⟨⟨.move (.tmp 7), (some 96), none⟩, 0⟩,
  ⟨⟨.move (.tmp 6), (some 97), none⟩, 0⟩,
  ⟨⟨.move (.tmp 14), (some 98), none⟩, 0⟩,
  ⟨⟨.addrSl 1 (.tmp 97) (.tmp 98), (some 99), none⟩, 6⟩,
  ⟨⟨.load none (.tmp 99), (some 100), none⟩, 14⟩,
  ⟨⟨.bin .sub (.tmp 100) (.const (.int .i64 1)), (some 101), none⟩, 30⟩,
  ⟨⟨.move (.tmp 7), (some 102), none⟩, 0⟩,
  ⟨⟨.move (.tmp 6), (some 103), none⟩, 0⟩,
  ⟨⟨.move (.tmp 14), (some 104), none⟩, 0⟩,
  ⟨⟨.addrSl 1 (.tmp 103) (.tmp 104), (some 105), none⟩, 384⟩,
  ⟨⟨.load none (.tmp 105), (some 106), none⟩, 896⟩,
  ⟨⟨.bin .sub (.tmp 106) (.const (.int .i64 1)), (some 107), none⟩, 1920⟩,
  ⟨⟨.addrSl 1 (.tmp 102) (.tmp 107), (some 108), none⟩, 4032⟩,
  ⟨⟨.load none (.tmp 108), (some 109), none⟩, 8128⟩,
  ⟨⟨.move (.tmp 5), (some 110), none⟩, 0⟩,
  ⟨⟨.move (.tmp 14), (some 111), none⟩, 0⟩,
  ⟨⟨.addrSl 3 (.tmp 110) (.tmp 111), (some 112), none⟩, 49152⟩,
  ⟨⟨.load (some 3) (.tmp 112), (some 113), none⟩, 114688⟩,
  ⟨⟨.buildSlice 29 3 [(.int .i64 0), (.int .i64 0), (.float .f64 0)] 1 [(0, (.tmp 113))], (some 114), none⟩, 245760⟩,
  ⟨⟨.append 29 24 3 [(.int .i64 0), (.int .i64 0), (.float .f64 0)] (.tmp 109) (.tmp 114), (some 115), none⟩, 524224⟩,
  ⟨⟨.addrSl 1 (.tmp 96) (.tmp 101), (some 116), none⟩, 1048575⟩,
  ⟨⟨.store 1 (.tmp 116) (.tmp 115), none, none⟩, 2097151⟩]
def o18_31 : List AOper := [⟨.move (.tmp 14), (some 94), none⟩,
  ⟨.bin .add (.tmp 94) (.const (.int .i64 1)), (some 95), none⟩,
  ⟨.move (.tmp 95), (some 14), none⟩]
def b18_28 : ACode := (.seq (.seq (.ops o18_29) (.cond (.tmp 93) .skip (.exit 6))) (.seq (.block 7 (.draw d18_30)) (.ops o18_31)))
def o18_32 : List AOper := [⟨.move (.tmp 7), (some 117), none⟩,
  ⟨.move (.tmp 117), (some 4), none⟩]
def ir18 : AFn := ⟨118, [.tmp 4], (.seq (.ops o18_0) (.seq (.seq (.ops o18_1) (.cond (.tmp 16) (.seq (.ops o18_2) .ret) .skip)) (.seq (.ops o18_3) (.seq (.ops o18_4) (.seq (.ops o18_5) (.seq (.seq (.ops o18_6) (.block 0 (.loop b18_7))) (.seq (.seq (.ops o18_27) (.block 6 (.loop b18_28))) (.seq (.ops o18_32) .ret))))))))⟩
theorem ir18_eq : fnsOf Try.prog 18 = some ir18 := by kernel_rfl
def o41_0 : List AOper := [⟨.move (.const (.slice none 0 0)), (some 4), none⟩]
def o41_1 : List AOper := [⟨.move (.const (.slice none 0 0)), (some 5), none⟩]
def o41_2 : List AOper := [⟨.move (.const (.int .i64 0)), (some 6), none⟩]
def o41_4 : List AOper := [⟨.move (.tmp 6), (some 7), none⟩,
  ⟨.move (.tmp 0), (some 8), none⟩,
  ⟨.bu .len [(.tmp 8)], (some 9), none⟩,
  ⟨.bin .lss (.tmp 7) (.tmp 9), (some 10), none⟩]
def o41_5 : List AOper := [⟨.move (.tmp 0), (some 13), none⟩,
  ⟨.move (.tmp 6), (some 14), none⟩,
  ⟨.addrSl 3 (.tmp 13) (.tmp 14), (some 15), none⟩,
  ⟨.fieldAddr 0 (.tmp 15), (some 16), none⟩,
  ⟨.load none (.tmp 16), (some 17), none⟩,
  ⟨.bin .geq (.tmp 17) (.const (.int .i64 0)), (some 18), none⟩,
  ⟨.move (.tmp 18), (some 19), none⟩,
  ⟨.move (.tmp 0), (some 20), (some (19, true))⟩,
  ⟨.move (.tmp 6), (some 21), (some (19, true))⟩,
  ⟨.addrSl 3 (.tmp 20) (.tmp 21), (some 22), (some (19, true))⟩,
  ⟨.fieldAddr 0 (.tmp 22), (some 23), (some (19, true))⟩,
  ⟨.load none (.tmp 23), (some 24), (some (19, true))⟩,
  ⟨.move (.tmp 1), (some 25), (some (19, true))⟩,
  ⟨.bin .lss (.tmp 24) (.tmp 25), (some 26), (some (19, true))⟩,
  ⟨.pick (.tmp 19) (.tmp 26) (.const (.bool false)), (some 27), none⟩,
  ⟨.move (.tmp 27), (some 28), none⟩,
  ⟨.move (.tmp 0), (some 29), (some (28, true))⟩,
  ⟨.move (.tmp 6), (some 30), (some (28, true))⟩,
  ⟨.addrSl 3 (.tmp 29) (.tmp 30), (some 31), (some (28, true))⟩,
  ⟨.fieldAddr 1 (.tmp 31), (some 32), (some (28, true))⟩,
  ⟨.load none (.tmp 32), (some 33), (some (28, true))⟩,
  ⟨.bin .geq (.tmp 33) (.const (.int .i64 0)), (some 34), (some (28, true))⟩,
  ⟨.pick (.tmp 28) (.tmp 34) (.const (.bool false)), (some 35), none⟩]
def o41_6 : List AOper := [⟨.move (.tmp 5), (some 36), none⟩,
  ⟨.move (.tmp 0), (some 37), none⟩,
  ⟨.move (.tmp 6), (some 38), none⟩,
  ⟨.addrSl 3 (.tmp 37) (.tmp 38), (some 39), none⟩,
  ⟨.load (some 3) (.tmp 39), (some 40), none⟩,
  ⟨.buildSlice 29 3 [(.int .i64 0), (.int .i64 0), (.float .f64 0)] 1 [(0, (.tmp 40))], (some 41), none⟩,
  ⟨.append 29 24 3 [(.int .i64 0), (.int .i64 0), (.float .f64 0)] (.tmp 36) (.tmp 41), (some 42), none⟩,
  ⟨.move (.tmp 42), (some 5), none⟩]
def o41_7 : List AOper := [⟨.move (.tmp 6), (some 11), none⟩,
  ⟨.bin .add (.tmp 11) (.const (.int .i64 1)), (some 12), none⟩,
  ⟨.move (.tmp 12), (some 6), none⟩]
def b41_3 : ACode := (.seq (.seq (.ops o41_4) (.cond (.tmp 10) .skip (.exit 0))) (.seq (.block 1 (.seq (.ops o41_5) (.cond (.tmp 35) (.ops o41_6) .skip))) (.ops o41_7)))
def o41_8 : List AOper := [⟨.move (.tmp 5), (some 43), none⟩,
  ⟨.call (.func 57) [(.tmp 43)], (some 44), none⟩,
  ⟨.move (.tmp 44), (some 4), none⟩]
def ir41 : AFn := ⟨45, [.tmp 4], (.seq (.ops o41_0) (.seq (.ops o41_1) (.seq (.seq (.ops o41_2) (.block 0 (.loop b41_3))) (.seq (.ops o41_8) .ret))))⟩
theorem ir41_eq : fnsOf Try.prog 41 = some ir41 := by kernel_rfl
def o42_0 : List AOper := [⟨.box 29 (.tmp 1), (some 4), none⟩,
  ⟨.move (.const (.slice none 0 0)), (some 6), none⟩]
def o42_1 : List AOper := [⟨.move (.const (.slice none 0 0)), (some 7), none⟩]
def o42_2 : List AOper := [⟨.move (.const (.int .i64 (-1))), (some 8), none⟩]
def o42_4 : List AOper := [⟨.move (.tmp 8), (some 12), none⟩,
  ⟨.bin .leq (.tmp 12) (.const (.int .i64 1)), (some 13), none⟩]
def o42_5 : List AOper := [⟨.move (.const (.int .i64 (-1))), (some 9), none⟩]
def o42_7 : List AOper := [⟨.move (.tmp 9), (some 16), none⟩,
  ⟨.bin .leq (.tmp 16) (.const (.int .i64 1)), (some 17), none⟩]
def o42_8 : List AOper := [⟨.fieldAddr 0 (.tmp 4), (some 20), none⟩,
  ⟨.load none (.tmp 20), (some 21), none⟩,
  ⟨.move (.tmp 8), (some 22), none⟩,
  ⟨.bin .add (.tmp 21) (.tmp 22), (some 23), none⟩,
  ⟨.move (.tmp 23), (some 10), none⟩]
def o42_9 : List AOper := [⟨.move (.tmp 10), (some 24), none⟩,
  ⟨.bin .lss (.tmp 24) (.const (.int .i64 0)), (some 25), none⟩]
def o42_10 : List AOper := [⟨.move (.tmp 2), (some 26), none⟩,
  ⟨.bin .sub (.tmp 26) (.const (.int .i64 1)), (some 27), none⟩,
  ⟨.move (.tmp 27), (some 10), none⟩]
def o42_11 : List AOper := [⟨.move (.tmp 10), (some 28), none⟩,
  ⟨.move (.tmp 2), (some 29), none⟩,
  ⟨.bin .eql (.tmp 28) (.tmp 29), (some 30), none⟩]
def o42_12 : List AOper := [⟨.move (.const (.int .i64 0)), (some 10), none⟩]
def o42_13 : List AOper := [⟨.move (.tmp 0), (some 31), none⟩,
  ⟨.move (.tmp 10), (some 32), none⟩,
  ⟨.fieldAddr 1 (.tmp 4), (some 33), none⟩,
  ⟨.load none (.tmp 33), (some 34), none⟩,
  ⟨.move (.tmp 9), (some 35), none⟩,
  ⟨.bin .add (.tmp 34) (.tmp 35), (some 36), none⟩,
  ⟨.call (.func 58) [(.tmp 31), (.tmp 32), (.tmp 36)], (some 37), none⟩,
  ⟨.move (.tmp 37), (some 11), none⟩]
def o42_14 : List AOper := [⟨.move (.tmp 11), (some 38), none⟩,
  ⟨.bin .geq (.tmp 38) (.const (.int .i64 0)), (some 39), none⟩]
def o42_15 : List AOper := [⟨.move (.tmp 7), (some 40), none⟩,
  ⟨.move (.tmp 11), (some 41), none⟩,
  ⟨.buildSlice 3 1 [(.int .i64 0)] 1 [(0, (.tmp 41))], (some 42), none⟩,
  ⟨.append 3 8 1 [(.int .i64 0)] (.tmp 40) (.tmp 42), (some 43), none⟩,
  ⟨.move (.tmp 43), (some 7), none⟩]
def o42_16 : List AOper := [⟨.move (.tmp 9), (some 18), none⟩,
  ⟨.bin .add (.tmp 18) (.const (.int .i64 1)), (some 19), none⟩,
  ⟨.move (.tmp 19), (some 9), none⟩]
def b42_6 : ACode := (.seq (.seq (.ops o42_7) (.cond (.tmp 17) .skip (.exit 2))) (.seq (.block 3 (.seq (.ops o42_8) (.seq (.seq (.ops o42_9) (.cond (.tmp 25) (.ops o42_10) .skip)) (.seq (.seq (.ops o42_11) (.cond (.tmp 30) (.ops o42_12) .skip)) (.seq (.ops o42_13) (.seq (.ops o42_14) (.cond (.tmp 39) (.ops o42_15) .skip))))))) (.ops o42_16)))
def o42_17 : List AOper := [⟨.move (.tmp 8), (some 14), none⟩,
  ⟨.bin .add (.tmp 14) (.const (.int .i64 1)), (some 15), none⟩,
  ⟨.move (.tmp 15), (some 8), none⟩]
def b42_3 : ACode := (.seq (.seq (.ops o42_4) (.cond (.tmp 13) .skip (.exit 0))) (.seq (.block 1 (.seq (.ops o42_5) (.block 2 (.loop b42_6)))) (.ops o42_17)))
def o42_18 : List AOper := [⟨.move (.tmp 7), (some 44), none⟩,
  ⟨.move (.tmp 44), (some 6), none⟩]
def ir42 : AFn := ⟨45, [.tmp 6], (.seq (.ops o42_0) (.seq (.ops o42_1) (.seq (.seq (.ops o42_2) (.block 0 (.loop b42_3))) (.seq (.ops o42_18) .ret))))⟩
theorem ir42_eq : fnsOf Try.prog 42 = some ir42 := by kernel_rfl
def o57_0 : List AOper := [⟨.move (.const (.slice none 0 0)), (some 2), none⟩]
def o57_1 : List AOper := [⟨.move (.tmp 0), (some 8), none⟩,
  ⟨.bu .len [(.tmp 8)], (some 9), none⟩,
  ⟨.bin .lss (.tmp 9) (.const (.int .i64 2)), (some 10), none⟩]
def o57_2 : List AOper := [⟨.buildSlice 29 3 [(.int .i64 0), (.int .i64 0), (.float .f64 0)] 0 [], (some 11), none⟩,
  ⟨.move (.tmp 0), (some 12), none⟩,
  ⟨.append 29 24 3 [(.int .i64 0), (.int .i64 0), (.float .f64 0)] (.tmp 11) (.tmp 12), (some 13), none⟩,
  ⟨.move (.tmp 13), (some 2), none⟩]
def o57_3 : List AOper := [⟨.move (.tmp 0), (some 14), none⟩,
  ⟨.move (.tmp 0), (some 15), none⟩,
  ⟨.bu .len [(.tmp 15)], (some 16), none⟩,
  ⟨.bin .quo (.tmp 16) (.const (.int .i64 2)), (some 17), none⟩,
  ⟨.slSl 3 (.tmp 14) none (some (.tmp 17)) none, (some 18), none⟩,
  ⟨.call (.func 57) [(.tmp 18)], (some 19), none⟩,
  ⟨.move (.tmp 19), (some 3), none⟩]
def o57_4 : List AOper := [⟨.move (.tmp 0), (some 20), none⟩,
  ⟨.move (.tmp 0), (some 21), none⟩,
  ⟨.bu .len [(.tmp 21)], (some 22), none⟩,
  ⟨.bin .quo (.tmp 22) (.const (.int .i64 2)), (some 23), none⟩,
  ⟨.slSl 3 (.tmp 20) (some (.tmp 23)) none none, (some 24), none⟩,
  ⟨.call (.func 57) [(.tmp 24)], (some 25), none⟩,
  ⟨.move (.tmp 25), (some 4), none⟩]
def o57_5 : List AOper := [⟨.move (.const (.slice none 0 0)), (some 5), none⟩]
def o57_6 : List AOper := [⟨.move (.const (.int .i64 0)), (some 6), none⟩]
def o57_7 : List AOper := [⟨.move (.const (.int .i64 0)), (some 7), none⟩]
def o57_9 : List AOper := [⟨.move (.tmp 7), (some 26), none⟩,
  ⟨.move (.tmp 4), (some 27), none⟩,
  ⟨.bu .len [(.tmp 27)], (some 28), none⟩,
  ⟨.bin .lss (.tmp 26) (.tmp 28), (some 29), none⟩]
def d57_11 : List DOper := [⟨⟨.move (.tmp 6), (some 32), none⟩, 0⟩,
  ⟨⟨.move (.tmp 3), (some 33), none⟩, 0⟩,
  ⟨⟨.bu .len [(.tmp 33)], (some 34), none⟩, 2⟩,
  ⟨⟨.bin .lss (.tmp 32) (.tmp 34), (some 35), none⟩, 7⟩,
  ⟨⟨.move (.tmp 35), (some 36), none⟩, 15⟩,
  ⟨⟨.move (.tmp 3), (some 37), (some (36, true))⟩, 31⟩,
  ⟨⟨.move (.tmp 6), (some 38), (some (36, true))⟩, 31⟩,
  ⟨⟨.addrSl 3 (.tmp 37) (.tmp 38), (some 39), (some (36, true))⟩, 127⟩,
  ⟨⟨.load (some 3) (.tmp 39), (some 40), (some (36, true))⟩, 255⟩,
  ⟨⟨.move (.tmp 4), (some 41), (some (36, true))⟩, 31⟩,
  ⟨⟨.move (.tmp 7), (some 42), (some (36, true))⟩, 31⟩,
  ⟨⟨.addrSl 3 (.tmp 41) (.tmp 42), (some 43), (some (36, true))⟩, 1567⟩,
  ⟨⟨.load (some 3) (.tmp 43), (some 44), (some (36, true))⟩, 3615⟩,
  ⟨⟨.call (.func 53) [(.tmp 40), (.tmp 44)], (some 45), (some (36, true))⟩, 8191⟩,
  ⟨⟨.pick (.tmp 36) (.tmp 45) (.const (.bool false)), (some 46), none⟩, 16383⟩]
def o57_12 : List AOper := [⟨.move (.tmp 5), (some 47), none⟩,
  ⟨.move (.tmp 3), (some 48), none⟩,
  ⟨.move (.tmp 6), (some 49), none⟩,
  ⟨.addrSl 3 (.tmp 48) (.tmp 49), (some 50), none⟩,
  ⟨.load (some 3) (.tmp 50), (some 51), none⟩,
  ⟨.buildSlice 29 3 [(.int .i64 0), (.int .i64 0), (.float .f64 0)] 1 [(0, (.tmp 51))], (some 52), none⟩,
  ⟨.append 29 24 3 [(.int .i64 0), (.int .i64 0), (.float .f64 0)] (.tmp 47) (.tmp 52), (some 53), none⟩,
  ⟨.move (.tmp 53), (some 5), none⟩]
def o57_13 : List AOper := [⟨.move (.tmp 6), (some 54), none⟩,
  ⟨.bin .add (.tmp 54) (.const (.int .i64 1)), (some 55), none⟩,
  ⟨.move (.tmp 55), (some 6), none⟩]
def b57_10 : ACode := (.seq (.seq (.draw d57_11) (.cond (.tmp 46) .skip (.exit 2))) (.block 3 (.seq (.ops o57_12) (.ops o57_13))))
def d57_14 : List DOper := [⟨⟨.move (.tmp 6), (some 56), none⟩, 0⟩,
  ⟨⟨.move (.tmp 3), (some 57), none⟩, 0⟩,
  ⟨⟨.bu .len [(.tmp 57)], (some 58), none⟩, 2⟩,
  ⟨⟨.bin .lss (.tmp 56) (.tmp 58), (some 59), none⟩, 7⟩,
  ⟨⟨.move (.tmp 59), (some 60), none⟩, 15⟩,
  ⟨⟨.move (.tmp 3), (some 61), (some (60, true))⟩, 31⟩,
  ⟨⟨.move (.tmp 6), (some 62), (some (60, true))⟩, 31⟩,
  ⟨⟨.addrSl 3 (.tmp 61) (.tmp 62), (some 63), (some (60, true))⟩, 127⟩,
  ⟨⟨.fieldAddr 0 (.tmp 63), (some 64), (some (60, true))⟩, 255⟩,
  ⟨⟨.load none (.tmp 64), (some 65), (some (60, true))⟩, 511⟩,
  ⟨⟨.move (.tmp 4), (some 66), (some (60, true))⟩, 31⟩,
  ⟨⟨.move (.tmp 7), (some 67), (some (60, true))⟩, 31⟩,
  ⟨⟨.addrSl 3 (.tmp 66) (.tmp 67), (some 68), (some (60, true))⟩, 3103⟩,
  ⟨⟨.fieldAddr 0 (.tmp 68), (some 69), (some (60, true))⟩, 7199⟩,
  ⟨⟨.load none (.tmp 69), (some 70), (some (60, true))⟩, 15391⟩,
  ⟨⟨.bin .eql (.tmp 65) (.tmp 70), (some 71), (some (60, true))⟩, 32767⟩,
  ⟨⟨.pick (.tmp 60) (.tmp 71) (.const (.bool false)), (some 72), none⟩, 65535⟩,
  ⟨⟨.move (.tmp 72), (some 73), none⟩, 131071⟩,
  ⟨⟨.move (.tmp 3), (some 74), (some (73, true))⟩, 262143⟩,
  ⟨⟨.move (.tmp 6), (some 75), (some (73, true))⟩, 262143⟩,
  ⟨⟨.addrSl 3 (.tmp 74) (.tmp 75), (some 76), (some (73, true))⟩, 1048575⟩,
  ⟨⟨.fieldAddr 1 (.tmp 76), (some 77), (some (73, true))⟩, 2097151⟩,
  ⟨⟨.load none (.tmp 77), (some 78), (some (73, true))⟩, 4194303⟩,
  ⟨⟨.move (.tmp 4), (some 79), (some (73, true))⟩, 262143⟩,
  ⟨⟨.move (.tmp 7), (some 80), (some (73, true))⟩, 262143⟩,
  ⟨⟨.addrSl 3 (.tmp 79) (.tmp 80), (some 81), (some (73, true))⟩, 25427967⟩,
  ⟨⟨.fieldAddr 1 (.tmp 81), (some 82), (some (73, true))⟩, 58982399⟩,
  ⟨⟨.load none (.tmp 82), (some 83), (some (73, true))⟩, 126091263⟩,
  ⟨⟨.bin .eql (.tmp 78) (.tmp 83), (some 84), (some (73, true))⟩, 268435455⟩,
  ⟨⟨.pick (.tmp 73) (.tmp 84) (.const (.bool false)), (some 85), none⟩, 536870911⟩]
def o57_15 : List AOper := [⟨.move (.tmp 5), (some 86), none⟩,
  ⟨.move (.tmp 4), (some 87), none⟩,
  ⟨.move (.tmp 7), (some 88), none⟩,
  ⟨.addrSl 3 (.tmp 87) (.tmp 88), (some 89), none⟩,
  ⟨.load (some 3) (.tmp 89), (some 90), none⟩,
  ⟨.buildSlice 29 3 [(.int .i64 0), (.int .i64 0), (.float .f64 0)] 1 [(0, (.tmp 90))], (some 91), none⟩,
  ⟨.append 29 24 3 [(.int .i64 0), (.int .i64 0), (.float .f64 0)] (.tmp 86) (.tmp 91), (some 92), none⟩,
  ⟨.move (.tmp 92), (some 5), none⟩]
def o57_16 : List AOper := [⟨.move (.tmp 7), (some 30), none⟩,
  ⟨.bin .add (.tmp 30) (.const (.int .i64 1)), (some 31), none⟩,
  ⟨.move (.tmp 31), (some 7), none⟩]
def b57_8 : ACode := (.seq (.seq (.ops o57_9) (.cond (.tmp 29) .skip (.exit 0))) (.seq (.block 1 (.seq (.block 2 (.loop b57_10)) (.seq (.seq (.draw d57_14) (.cond (.tmp 85) (.exit 1) .skip)) (.ops o57_15)))) (.ops o57_16)))
def o57_17 : List AOper := [⟨.move (.tmp 5), (some 93), none⟩,
  ⟨.move (.tmp 3), (some 94), none⟩,
  ⟨.move (.tmp 6), (some 95), none⟩,
  ⟨.slSl 3 (.tmp 94) (some (.tmp 95)) none none, (some 96), none⟩,
  ⟨.append 29 24 3 [(.int .i64 0), (.int .i64 0), (.float .f64 0)] (.tmp 93) (.tmp 96), (some 97), none⟩,
  ⟨.move (.tmp 97), (some 2), none⟩]
def ir57 : AFn := ⟨98, [.tmp 2], (.seq (.ops o57_0) (.seq (.seq (.ops o57_1) (.cond (.tmp 10) (.seq (.ops o57_2) .ret) .skip)) (.seq (.ops o57_3) (.seq (.ops o57_4) (.seq (.ops o57_5) (.seq (.ops o57_6) (.seq (.seq (.ops o57_7) (.block 0 (.loop b57_8))) (.seq (.ops o57_17) .ret))))))))⟩
theorem ir57_eq : fnsOf Try.prog 57 = some ir57 := by kernel_rfl
def o58_0 : List AOper := [⟨.move (.const (.int .i64 0)), (some 6), none⟩]
def o58_1 : List AOper := [⟨.move (.tmp 1), (some 11), none⟩,
  ⟨.move (.tmp 2), (some 12), none⟩,
  ⟨.build [(.int .i64 0), (.int .i64 0), (.float .f64 0)] [(0, 1, (.tmp 11)), (1, 1, (.tmp 12))], (some 13), none⟩,
  ⟨.alloc 29 [(.int .i64 0), (.int .i64 0), (.float .f64 0)], (some 7), none⟩,
  ⟨.store 3 (.tmp 7) (.tmp 13), none, none⟩]
def o58_2 : List AOper := [⟨.move (.const (.int .i64 0)), (some 8), none⟩]
def o58_3 : List AOper := [⟨.move (.tmp 0), (some 14), none⟩,
  ⟨.bu .len [(.tmp 14)], (some 15), none⟩,
  ⟨.move (.tmp 15), (some 9), none⟩]
def o58_5 : List AOper := [⟨.move (.tmp 8), (some 16), none⟩,
  ⟨.move (.tmp 9), (some 17), none⟩,
  ⟨.bin .lss (.tmp 16) (.tmp 17), (some 18), none⟩]
def o58_6 : List AOper := [⟨.move (.tmp 8), (some 19), none⟩,
  ⟨.move (.tmp 9), (some 20), none⟩,
  ⟨.move (.tmp 8), (some 21), none⟩,
  ⟨.bin .sub (.tmp 20) (.tmp 21), (some 22), none⟩,
  ⟨.bin .quo (.tmp 22) (.const (.int .i64 2)), (some 23), none⟩,
  ⟨.bin .add (.tmp 19) (.tmp 23), (some 24), none⟩,
  ⟨.move (.tmp 24), (some 10), none⟩]
def d58_7 : List DOper := [⟨⟨.move (.tmp 0), (some 25), none⟩, 0⟩,
  ⟨⟨.move (.tmp 10), (some 26), none⟩, 0⟩,
  ⟨⟨.addrSl 3 (.tmp 25) (.tmp 26), (some 27), none⟩, 3⟩,
  ⟨⟨.load (some 3) (.tmp 27), (some 28), none⟩, 7⟩,
  ⟨⟨.load (some 3) (.tmp 7), (some 29), none⟩, 0⟩,
  ⟨⟨.call (.func 53) [(.tmp 28), (.tmp 29)], (some 30), none⟩, 31⟩]
def o58_8 : List AOper := [⟨.move (.tmp 10), (some 31), none⟩,
  ⟨.bin .add (.tmp 31) (.const (.int .i64 1)), (some 32), none⟩,
  ⟨.move (.tmp 32), (some 8), none⟩]
def o58_9 : List AOper := [⟨.move (.tmp 10), (some 33), none⟩,
  ⟨.move (.tmp 33), (some 9), none⟩]
def b58_4 : ACode := (.seq (.seq (.ops o58_5) (.cond (.tmp 18) .skip (.exit 0))) (.block 1 (.seq (.ops o58_6) (.seq (.draw d58_7) (.cond (.tmp 30) (.ops o58_8) (.ops o58_9))))))
def o58_10 : List AOper := [⟨.move (.tmp 8), (some 34), none⟩,
  ⟨.move (.tmp 0), (some 35), none⟩,
  ⟨.bu .len [(.tmp 35)], (some 36), none⟩,
  ⟨.bin .lss (.tmp 34) (.tmp 36), (some 37), none⟩,
  ⟨.move (.tmp 37), (some 38), none⟩,
  ⟨.move (.tmp 0), (some 39), (some (38, true))⟩,
  ⟨.move (.tmp 8), (some 40), (some (38, true))⟩,
  ⟨.addrSl 3 (.tmp 39) (.tmp 40), (some 41), (some (38, true))⟩,
  ⟨.fieldAddr 0 (.tmp 41), (some 42), (some (38, true))⟩,
  ⟨.load none (.tmp 42), (some 43), (some (38, true))⟩,
  ⟨.move (.tmp 1), (some 44), (some (38, true))⟩,
  ⟨.bin .eql (.tmp 43) (.tmp 44), (some 45), (some (38, true))⟩,
  ⟨.pick (.tmp 38) (.tmp 45) (.const (.bool false)), (some 46), none⟩,
  ⟨.move (.tmp 46), (some 47), none⟩,
  ⟨.move (.tmp 0), (some 48), (some (47, true))⟩,
  ⟨.move (.tmp 8), (some 49), (some (47, true))⟩,
  ⟨.addrSl 3 (.tmp 48) (.tmp 49), (some 50), (some (47, true))⟩,
  ⟨.fieldAddr 1 (.tmp 50), (some 51), (some (47, true))⟩,
  ⟨.load none (.tmp 51), (some 52), (some (47, true))⟩,
  ⟨.move (.tmp 2), (some 53), (some (47, true))⟩,
  ⟨.bin .eql (.tmp 52) (.tmp 53), (some 54), (some (47, true))⟩,
  ⟨.pick (.tmp 47) (.tmp 54) (.const (.bool false)), (some 55), none⟩]
def o58_11 : List AOper := [⟨.move (.tmp 8), (some 56), none⟩,
  ⟨.move (.tmp 56), (some 6), none⟩]
def o58_12 : List AOper := [⟨.move (.const (.int .i64 (-1))), (some 6), none⟩]
def ir58 : AFn := ⟨57, [.tmp 6], (.seq (.ops o58_0) (.seq (.ops o58_1) (.seq (.ops o58_2) (.seq (.ops o58_3) (.seq (.block 0 (.loop b58_4)) (.seq (.seq (.ops o58_10) (.cond (.tmp 55) (.seq (.ops o58_11) .ret) .skip)) (.seq (.ops o58_12) .ret)))))))⟩
theorem ir58_eq : fnsOf Try.prog 58 = some ir58 := by kernel_rfl
end Go.Proofs.Ytpphomoijlilfaa
