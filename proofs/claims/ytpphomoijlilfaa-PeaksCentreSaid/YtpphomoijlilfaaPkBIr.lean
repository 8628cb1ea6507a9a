/- The small machine's text of functions of the seat. -/
import Derived.Test.YtpphomoijlilfaaRows
import Derived.Test.YtpphomoijlilfaaVam25
import Derived.KernelRfl
namespace Go.Proofs.Ytpphomoijlilfaa
open Go Go.Vam

/-! F3 lookout/lookoutlaw15.PeaksHighest -/
def o3_0 : List AOper := [⟨.move (.const (.bool false)), (some 2), none⟩]
def o3_1 : List AOper := [⟨.move (.const (.slice none 0 0)), (some 3), none⟩]
def o3_2 : List AOper := [⟨.move (.const (.int .i64 0)), (some 4), none⟩]
def o3_4 : List AOper := [⟨.move (.tmp 4), (some 12), none⟩,
  ⟨.move (.tmp 0), (some 13), none⟩,
  ⟨.bu .len [(.tmp 13)], (some 14), none⟩,
  ⟨.bin .lss (.tmp 12) (.tmp 14), (some 15), none⟩]
def o3_5 : List AOper := [⟨.buildSlice 24 1 [(.float .f64 0)] 0 [], (some 18), none⟩,
  ⟨.move (.tmp 0), (some 19), none⟩,
  ⟨.move (.tmp 4), (some 20), none⟩,
  ⟨.addrSl 1 (.tmp 19) (.tmp 20), (some 21), none⟩,
  ⟨.load none (.tmp 21), (some 22), none⟩,
  ⟨.append 24 8 1 [(.float .f64 0)] (.tmp 18) (.tmp 22), (some 23), none⟩,
  ⟨.buildSlice 24 1 [(.float .f64 0)] 1 [(0, (.const (.float .f64 9094988921128908188)))], (some 24), none⟩,
  ⟨.append 24 8 1 [(.float .f64 0)] (.tmp 23) (.tmp 24), (some 25), none⟩,
  ⟨.move (.tmp 25), (some 5), none⟩]
def o3_6 : List AOper := [⟨.move (.tmp 3), (some 26), none⟩,
  ⟨.move (.tmp 5), (some 27), none⟩,
  ⟨.move (.tmp 0), (some 28), none⟩,
  ⟨.move (.tmp 4), (some 29), none⟩,
  ⟨.addrSl 1 (.tmp 28) (.tmp 29), (some 30), none⟩,
  ⟨.load none (.tmp 30), (some 31), none⟩,
  ⟨.bu .len [(.tmp 31)], (some 32), none⟩,
  ⟨.slSl 1 (.tmp 27) none (some (.tmp 32)) none, (some 33), none⟩,
  ⟨.buildSlice 23 1 [(.slice none 0 0)] 1 [(0, (.tmp 33))], (some 34), none⟩,
  ⟨.append 23 24 1 [(.slice none 0 0)] (.tmp 26) (.tmp 34), (some 35), none⟩,
  ⟨.move (.tmp 35), (some 3), none⟩]
def o3_7 : List AOper := [⟨.move (.tmp 4), (some 16), none⟩,
  ⟨.bin .add (.tmp 16) (.const (.int .i64 1)), (some 17), none⟩,
  ⟨.move (.tmp 17), (some 4), none⟩]
def b3_3 : ACode := (.seq (.seq (.ops o3_4) (.cond (.tmp 15) .skip (.exit 0))) (.seq (.block 1 (.seq (.ops o3_5) (.ops o3_6))) (.ops o3_7)))
def o3_8 : List AOper := [⟨.move (.tmp 3), (some 36), none⟩,
  ⟨.call (.func 11) [(.tmp 36)], (some 37), none⟩,
  ⟨.move (.tmp 37), (some 6), none⟩]
def o3_9 : List AOper := [⟨.move (.tmp 3), (some 38), none⟩,
  ⟨.call (.func 11) [(.tmp 38)], (some 39), none⟩,
  ⟨.move (.tmp 39), (some 7), none⟩]
def o3_10 : List AOper := [⟨.move (.tmp 0), (some 40), none⟩,
  ⟨.call (.func 12) [(.tmp 40)], (some 41), none⟩,
  ⟨.move (.tmp 41), (some 8), none⟩]
def o3_11 : List AOper := [⟨.move (.tmp 6), (some 42), none⟩,
  ⟨.move (.tmp 8), (some 43), none⟩,
  ⟨.call (.func 13) [(.tmp 42), (.tmp 43)], (some 44), none⟩,
  ⟨.un .not (.tmp 44), (some 45), none⟩]
def o3_12 : List AOper := [⟨.move (.const (.bool false)), (some 2), none⟩]
def o3_13 : List AOper := [⟨.move (.const (.int .i64 0)), (some 9), none⟩]
def o3_15 : List AOper := [⟨.move (.tmp 9), (some 46), none⟩,
  ⟨.move (.tmp 6), (some 47), none⟩,
  ⟨.bu .len [(.tmp 47)], (some 48), none⟩,
  ⟨.bin .lss (.tmp 46) (.tmp 48), (some 49), none⟩]
def o3_16 : List AOper := [⟨.move (.tmp 6), (some 52), none⟩,
  ⟨.move (.tmp 9), (some 53), none⟩,
  ⟨.addrSl 3 (.tmp 52) (.tmp 53), (some 54), none⟩,
  ⟨.fieldAddr 0 (.tmp 54), (some 55), none⟩,
  ⟨.store 1 (.tmp 55) (.const (.int .i64 (-9))), none, none⟩]
def o3_17 : List AOper := [⟨.move (.tmp 9), (some 50), none⟩,
  ⟨.bin .add (.tmp 50) (.const (.int .i64 1)), (some 51), none⟩,
  ⟨.move (.tmp 51), (some 9), none⟩]
def b3_14 : ACode := (.seq (.seq (.ops o3_15) (.cond (.tmp 49) .skip (.exit 2))) (.seq (.block 3 (.ops o3_16)) (.ops o3_17)))
def o3_18 : List AOper := [⟨.move (.const (.int .i64 0)), (some 10), none⟩]
def o3_20 : List AOper := [⟨.move (.tmp 10), (some 56), none⟩,
  ⟨.bin .lss (.tmp 56) (.const (.int .i64 9)), (some 57), none⟩]
def o3_21 : List AOper := [⟨.move (.tmp 6), (some 60), none⟩,
  ⟨.build [(.int .i64 0), (.int .i64 0), (.float .f64 0)] [(0, 1, (.const (.int .i64 (-8))))], (some 61), none⟩,
  ⟨.buildSlice 29 3 [(.int .i64 0), (.int .i64 0), (.float .f64 0)] 1 [(0, (.tmp 61))], (some 62), none⟩,
  ⟨.append 29 24 3 [(.int .i64 0), (.int .i64 0), (.float .f64 0)] (.tmp 60) (.tmp 62), (some 63), none⟩,
  ⟨.move (.tmp 63), (some 6), none⟩]
def o3_22 : List AOper := [⟨.move (.tmp 10), (some 58), none⟩,
  ⟨.bin .add (.tmp 58) (.const (.int .i64 1)), (some 59), none⟩,
  ⟨.move (.tmp 59), (some 10), none⟩]
def b3_19 : ACode := (.seq (.seq (.ops o3_20) (.cond (.tmp 57) .skip (.exit 4))) (.seq (.block 5 (.ops o3_21)) (.ops o3_22)))
def o3_23 : List AOper := [⟨.move (.const (.int .i64 0)), (some 11), none⟩]
def o3_25 : List AOper := [⟨.move (.tmp 11), (some 64), none⟩,
  ⟨.move (.tmp 3), (some 65), none⟩,
  ⟨.bu .len [(.tmp 65)], (some 66), none⟩,
  ⟨.bin .lss (.tmp 64) (.tmp 66), (some 67), none⟩]
def d3_26 : List DOper := [⟨⟨.move (.tmp 3), (some 70), none⟩, 0⟩,
  ⟨⟨.move (.tmp 11), (some 71), none⟩, 0⟩,
  ⟨⟨.addrSl 1 (.tmp 70) (.tmp 71), (some 72), none⟩, 3⟩,
  ⟨⟨.load none (.tmp 72), (some 73), none⟩, 7⟩,
  ⟨⟨.move (.tmp 0), (some 74), none⟩, 0⟩,
  ⟨⟨.move (.tmp 11), (some 75), none⟩, 0⟩,
  ⟨⟨.addrSl 1 (.tmp 74) (.tmp 75), (some 76), none⟩, 48⟩,
  ⟨⟨.load none (.tmp 76), (some 77), none⟩, 112⟩,
  ⟨⟨.bu .len [(.tmp 77)], (some 78), none⟩, 240⟩,
  ⟨⟨.bin .add (.tmp 78) (.const (.int .i64 1)), (some 79), none⟩, 496⟩,
  ⟨⟨.slSl 1 (.tmp 73) none (some (.tmp 79)) none, (some 80), none⟩, 1023⟩,
  ⟨⟨.move (.tmp 0), (some 81), none⟩, 0⟩,
  ⟨⟨.move (.tmp 11), (some 82), none⟩, 0⟩,
  ⟨⟨.addrSl 1 (.tmp 81) (.tmp 82), (some 83), none⟩, 6144⟩,
  ⟨⟨.load none (.tmp 83), (some 84), none⟩, 14336⟩,
  ⟨⟨.bu .len [(.tmp 84)], (some 85), none⟩, 30720⟩,
  ⟨⟨.addrSl 1 (.tmp 80) (.tmp 85), (some 86), none⟩, 65535⟩,
  ⟨⟨.load none (.tmp 86), (some 87), none⟩, 131071⟩,
  ⟨⟨.bin .neq (.tmp 87) (.const (.float .f64 9094988921128908188)), (some 88), none⟩, 262143⟩]
def o3_27 : List AOper := [⟨.move (.const (.bool false)), (some 2), none⟩]
def o3_28 : List AOper := [⟨.move (.tmp 11), (some 68), none⟩,
  ⟨.bin .add (.tmp 68) (.const (.int .i64 1)), (some 69), none⟩,
  ⟨.move (.tmp 69), (some 11), none⟩]
def b3_24 : ACode := (.seq (.seq (.ops o3_25) (.cond (.tmp 67) .skip (.exit 6))) (.seq (.block 7 (.seq (.draw d3_26) (.cond (.tmp 88) (.seq (.ops o3_27) .ret) .skip))) (.ops o3_28)))
def o3_29 : List AOper := [⟨.move (.tmp 7), (some 89), none⟩,
  ⟨.move (.tmp 8), (some 90), none⟩,
  ⟨.call (.func 13) [(.tmp 89), (.tmp 90)], (some 91), none⟩,
  ⟨.move (.tmp 91), (some 92), none⟩,
  ⟨.move (.tmp 3), (some 93), (some (92, true))⟩,
  ⟨.move (.tmp 0), (some 94), (some (92, true))⟩,
  ⟨.call (.func 14) [(.tmp 93), (.tmp 94)], (some 95), (some (92, true))⟩,
  ⟨.pick (.tmp 92) (.tmp 95) (.const (.bool false)), (some 96), none⟩,
  ⟨.move (.tmp 96), (some 97), none⟩,
  ⟨.move (.tmp 6), (some 98), (some (97, true))⟩,
  ⟨.bu .len [(.tmp 98)], (some 99), (some (97, true))⟩,
  ⟨.move (.tmp 8), (some 100), (some (97, true))⟩,
  ⟨.bu .len [(.tmp 100)], (some 101), (some (97, true))⟩,
  ⟨.bin .add (.tmp 101) (.const (.int .i64 9)), (some 102), (some (97, true))⟩,
  ⟨.bin .eql (.tmp 99) (.tmp 102), (some 103), (some (97, true))⟩,
  ⟨.pick (.tmp 97) (.tmp 103) (.const (.bool false)), (some 104), none⟩,
  ⟨.move (.tmp 104), (some 105), none⟩,
  ⟨.call (.func 15) [], (some 106), (some (105, true))⟩,
  ⟨.pick (.tmp 105) (.tmp 106) (.const (.bool false)), (some 107), none⟩,
  ⟨.move (.tmp 107), (some 2), none⟩]
def ir3 : AFn := ⟨108, [.tmp 2], (.seq (.ops o3_0) (.seq (.ops o3_1) (.seq (.seq (.ops o3_2) (.block 0 (.loop b3_3))) (.seq (.ops o3_8) (.seq (.ops o3_9) (.seq (.ops o3_10) (.seq (.seq (.ops o3_11) (.cond (.tmp 45) (.seq (.ops o3_12) .ret) .skip)) (.seq (.seq (.ops o3_13) (.block 2 (.loop b3_14))) (.seq (.seq (.ops o3_18) (.block 4 (.loop b3_19))) (.seq (.seq (.ops o3_23) (.block 6 (.loop b3_24))) (.seq (.ops o3_29) .ret)))))))))))⟩
theorem ir3_eq : fnsOf Try.prog 3 = some ir3 := by kernel_rfl

/-! F12 lookout/lookoutref15.Highest -/
def o12_0 : List AOper := [⟨.move (.const (.slice none 0 0)), (some 2), none⟩]
def o12_1 : List AOper := [⟨.move (.tmp 0), (some 13), none⟩,
  ⟨.bu .len [(.tmp 13)], (some 14), none⟩,
  ⟨.bin .eql (.tmp 14) (.const (.int .i64 0)), (some 15), none⟩]
def o12_2 : List AOper := [⟨.move (.const (.slice none 0 0)), (some 2), none⟩]
def o12_3 : List AOper := [⟨.move (.tmp 0), (some 16), none⟩,
  ⟨.addrSl 1 (.tmp 16) (.const (.int .i64 0)), (some 17), none⟩,
  ⟨.load none (.tmp 17), (some 18), none⟩,
  ⟨.bu .len [(.tmp 18)], (some 19), none⟩,
  ⟨.move (.tmp 19), (some 3), none⟩]
def o12_4 : List AOper := [⟨.move (.const (.int .i64 0)), (some 4), none⟩]
def o12_6 : List AOper := [⟨.move (.tmp 4), (some 20), none⟩,
  ⟨.move (.tmp 0), (some 21), none⟩,
  ⟨.bu .len [(.tmp 21)], (some 22), none⟩,
  ⟨.bin .lss (.tmp 20) (.tmp 22), (some 23), none⟩]
def o12_7 : List AOper := [⟨.move (.tmp 3), (some 26), none⟩,
  ⟨.move (.tmp 0), (some 27), none⟩,
  ⟨.move (.tmp 4), (some 28), none⟩,
  ⟨.addrSl 1 (.tmp 27) (.tmp 28), (some 29), none⟩,
  ⟨.load none (.tmp 29), (some 30), none⟩,
  ⟨.bu .len [(.tmp 30)], (some 31), none⟩,
  ⟨.bu .min [(.tmp 26), (.tmp 31)], (some 32), none⟩,
  ⟨.move (.tmp 32), (some 3), none⟩]
def o12_8 : List AOper := [⟨.move (.tmp 4), (some 24), none⟩,
  ⟨.bin .add (.tmp 24) (.const (.int .i64 1)), (some 25), none⟩,
  ⟨.move (.tmp 25), (some 4), none⟩]
def b12_5 : ACode := (.seq (.seq (.ops o12_6) (.cond (.tmp 23) .skip (.exit 0))) (.seq (.block 1 (.ops o12_7)) (.ops o12_8)))
def o12_9 : List AOper := [⟨.move (.const (.slice none 0 0)), (some 5), none⟩]
def o12_10 : List AOper := [⟨.move (.const (.int .i64 0)), (some 6), none⟩]
def o12_12 : List AOper := [⟨.move (.tmp 6), (some 33), none⟩,
  ⟨.move (.tmp 0), (some 34), none⟩,
  ⟨.bu .len [(.tmp 34)], (some 35), none⟩,
  ⟨.bin .lss (.tmp 33) (.tmp 35), (some 36), none⟩]
def o12_13 : List AOper := [⟨.move (.const (.int .i64 0)), (some 7), none⟩]
def o12_15 : List AOper := [⟨.move (.tmp 7), (some 39), none⟩,
  ⟨.move (.tmp 3), (some 40), none⟩,
  ⟨.bin .lss (.tmp 39) (.tmp 40), (some 41), none⟩]
def o12_16 : List AOper := [⟨.move (.tmp 6), (some 44), none⟩,
  ⟨.move (.tmp 7), (some 45), none⟩,
  ⟨.move (.tmp 0), (some 46), none⟩,
  ⟨.move (.tmp 6), (some 47), none⟩,
  ⟨.addrSl 1 (.tmp 46) (.tmp 47), (some 48), none⟩,
  ⟨.load none (.tmp 48), (some 49), none⟩,
  ⟨.move (.tmp 7), (some 50), none⟩,
  ⟨.addrSl 1 (.tmp 49) (.tmp 50), (some 51), none⟩,
  ⟨.load none (.tmp 51), (some 52), none⟩,
  ⟨.build [(.int .i64 0), (.int .i64 0), (.float .f64 0)] [(0, 1, (.tmp 44)), (1, 1, (.tmp 45)), (2, 1, (.tmp 52))], (some 53), none⟩,
  ⟨.alloc 29 [(.int .i64 0), (.int .i64 0), (.float .f64 0)], (some 8), none⟩,
  ⟨.store 3 (.tmp 8) (.tmp 53), none, none⟩]
def o12_17 : List AOper := [⟨.move (.tmp 0), (some 54), none⟩,
  ⟨.move (.tmp 6), (some 55), none⟩,
  ⟨.move (.tmp 7), (some 56), none⟩,
  ⟨.move (.tmp 3), (some 57), none⟩,
  ⟨.call (.func 32) [(.tmp 54), (.tmp 55), (.tmp 56), (.tmp 57)], (some 58), none⟩,
  ⟨.move (.tmp 58), (some 9), none⟩]
def o12_18 : List AOper := [⟨.fieldAddr 2 (.tmp 8), (some 59), none⟩,
  ⟨.load none (.tmp 59), (some 60), none⟩,
  ⟨.bin .gtr (.tmp 60) (.const (.float .f64 0)), (some 61), none⟩,
  ⟨.move (.tmp 61), (some 10), none⟩]
def o12_19 : List AOper := [⟨.move (.const (.int .i64 0)), (some 11), none⟩]
def o12_21 : List AOper := [⟨.move (.tmp 11), (some 62), none⟩,
  ⟨.move (.tmp 9), (some 63), none⟩,
  ⟨.bu .len [(.tmp 63)], (some 64), none⟩,
  ⟨.bin .lss (.tmp 62) (.tmp 64), (some 65), none⟩]
def d12_22 : List DOper := [⟨⟨.move (.tmp 0), (some 68), none⟩, 0⟩,
  ⟨⟨.bu .len [(.tmp 68)], (some 69), none⟩, 1⟩,
  ⟨⟨.move (.tmp 9), (some 70), none⟩, 0⟩,
  ⟨⟨.move (.tmp 11), (some 71), none⟩, 0⟩,
  ⟨⟨.addrSl 3 (.tmp 70) (.tmp 71), (some 72), none⟩, 12⟩,
  ⟨⟨.load (some 3) (.tmp 72), (some 73), none⟩, 28⟩,
  ⟨⟨.load (some 3) (.tmp 8), (some 74), none⟩, 0⟩,
  ⟨⟨.call (.func 33) [(.tmp 69), (.tmp 73), (.tmp 74)], (some 75), none⟩, 127⟩,
  ⟨⟨.move (.tmp 75), (some 12), none⟩, 255⟩]
def d12_23 : List DOper := [⟨⟨.move (.tmp 10), (some 76), none⟩, 0⟩,
  ⟨⟨.move (.tmp 76), (some 77), none⟩, 1⟩,
  ⟨⟨.move (.tmp 12), (some 78), (some (77, true))⟩, 3⟩,
  ⟨⟨.move (.tmp 78), (some 79), (some (77, true))⟩, 7⟩,
  ⟨⟨.move (.tmp 9), (some 80), (some (79, true))⟩, 15⟩,
  ⟨⟨.move (.tmp 11), (some 81), (some (79, true))⟩, 15⟩,
  ⟨⟨.addrSl 3 (.tmp 80) (.tmp 81), (some 82), (some (79, true))⟩, 63⟩,
  ⟨⟨.load (some 3) (.tmp 82), (some 83), (some (79, true))⟩, 127⟩,
  ⟨⟨.load (some 3) (.tmp 8), (some 84), (some (79, true))⟩, 15⟩,
  ⟨⟨.call (.func 34) [(.tmp 83), (.tmp 84)], (some 85), (some (79, true))⟩, 511⟩,
  ⟨⟨.pick (.tmp 79) (.tmp 85) (.const (.bool false)), (some 86), (some (77, true))⟩, 1023⟩,
  ⟨⟨.un .not (.tmp 86), (some 87), (some (77, true))⟩, 2047⟩,
  ⟨⟨.pick (.tmp 77) (.tmp 87) (.const (.bool false)), (some 88), none⟩, 4095⟩,
  ⟨⟨.move (.tmp 88), (some 10), none⟩, 8191⟩]
def o12_24 : List AOper := [⟨.move (.tmp 11), (some 66), none⟩,
  ⟨.bin .add (.tmp 66) (.const (.int .i64 1)), (some 67), none⟩,
  ⟨.move (.tmp 67), (some 11), none⟩]
def b12_20 : ACode := (.seq (.seq (.ops o12_21) (.cond (.tmp 65) .skip (.exit 6))) (.seq (.block 7 (.seq (.draw d12_22) (.draw d12_23))) (.ops o12_24)))
def o12_25 : List AOper := [⟨.move (.tmp 10), (some 89), none⟩]
def o12_26 : List AOper := [⟨.move (.tmp 5), (some 90), none⟩,
  ⟨.load (some 3) (.tmp 8), (some 91), none⟩,
  ⟨.buildSlice 29 3 [(.int .i64 0), (.int .i64 0), (.float .f64 0)] 1 [(0, (.tmp 91))], (some 92), none⟩,
  ⟨.append 29 24 3 [(.int .i64 0), (.int .i64 0), (.float .f64 0)] (.tmp 90) (.tmp 92), (some 93), none⟩,
  ⟨.move (.tmp 93), (some 5), none⟩]
def o12_27 : List AOper := [⟨.move (.tmp 7), (some 42), none⟩,
  ⟨.bin .add (.tmp 42) (.const (.int .i64 1)), (some 43), none⟩,
  ⟨.move (.tmp 43), (some 7), none⟩]
def b12_14 : ACode := (.seq (.seq (.ops o12_15) (.cond (.tmp 41) .skip (.exit 4))) (.seq (.block 5 (.seq (.ops o12_16) (.seq (.ops o12_17) (.seq (.ops o12_18) (.seq (.seq (.ops o12_19) (.block 6 (.loop b12_20))) (.seq (.ops o12_25) (.cond (.tmp 89) (.ops o12_26) .skip))))))) (.ops o12_27)))
def o12_28 : List AOper := [⟨.move (.tmp 6), (some 37), none⟩,
  ⟨.bin .add (.tmp 37) (.const (.int .i64 1)), (some 38), none⟩,
  ⟨.move (.tmp 38), (some 6), none⟩]
def b12_11 : ACode := (.seq (.seq (.ops o12_12) (.cond (.tmp 36) .skip (.exit 2))) (.seq (.block 3 (.seq (.ops o12_13) (.block 4 (.loop b12_14)))) (.ops o12_28)))
def o12_29 : List AOper := [⟨.move (.tmp 5), (some 94), none⟩,
  ⟨.move (.tmp 94), (some 2), none⟩]
def ir12 : AFn := ⟨95, [.tmp 2], (.seq (.ops o12_0) (.seq (.seq (.ops o12_1) (.cond (.tmp 15) (.seq (.ops o12_2) .ret) .skip)) (.seq (.ops o12_3) (.seq (.seq (.ops o12_4) (.block 0 (.loop b12_5))) (.seq (.ops o12_9) (.seq (.seq (.ops o12_10) (.block 2 (.loop b12_11))) (.seq (.ops o12_29) .ret)))))))⟩
theorem ir12_eq : fnsOf Try.prog 12 = some ir12 := by kernel_rfl

/-! F13 lookout/lookoutlaw15.sameSpots -/
def o13_0 : List AOper := [⟨.move (.const (.bool false)), (some 4), none⟩]
def o13_1 : List AOper := [⟨.move (.tmp 0), (some 6), none⟩,
  ⟨.bu .len [(.tmp 6)], (some 7), none⟩,
  ⟨.move (.tmp 1), (some 8), none⟩,
  ⟨.bu .len [(.tmp 8)], (some 9), none⟩,
  ⟨.bin .neq (.tmp 7) (.tmp 9), (some 10), none⟩]
def o13_2 : List AOper := [⟨.move (.const (.bool false)), (some 4), none⟩]
def o13_3 : List AOper := [⟨.move (.const (.int .i64 0)), (some 5), none⟩]
def o13_5 : List AOper := [⟨.move (.tmp 5), (some 11), none⟩,
  ⟨.move (.tmp 0), (some 12), none⟩,
  ⟨.bu .len [(.tmp 12)], (some 13), none⟩,
  ⟨.bin .lss (.tmp 11) (.tmp 13), (some 14), none⟩]
def d13_6 : List DOper := [⟨⟨.move (.tmp 0), (some 17), none⟩, 0⟩,
  ⟨⟨.move (.tmp 5), (some 18), none⟩, 0⟩,
  ⟨⟨.addrSl 3 (.tmp 17) (.tmp 18), (some 19), none⟩, 3⟩,
  ⟨⟨.fieldAddr 0 (.tmp 19), (some 20), none⟩, 7⟩,
  ⟨⟨.load none (.tmp 20), (some 21), none⟩, 15⟩,
  ⟨⟨.move (.tmp 1), (some 22), none⟩, 0⟩,
  ⟨⟨.move (.tmp 5), (some 23), none⟩, 0⟩,
  ⟨⟨.addrSl 3 (.tmp 22) (.tmp 23), (some 24), none⟩, 96⟩,
  ⟨⟨.fieldAddr 0 (.tmp 24), (some 25), none⟩, 224⟩,
  ⟨⟨.load none (.tmp 25), (some 26), none⟩, 480⟩,
  ⟨⟨.bin .neq (.tmp 21) (.tmp 26), (some 27), none⟩, 1023⟩,
  ⟨⟨.move (.tmp 27), (some 28), none⟩, 2047⟩,
  ⟨⟨.move (.tmp 0), (some 29), (some (28, false))⟩, 4095⟩,
  ⟨⟨.move (.tmp 5), (some 30), (some (28, false))⟩, 4095⟩,
  ⟨⟨.addrSl 3 (.tmp 29) (.tmp 30), (some 31), (some (28, false))⟩, 16383⟩,
  ⟨⟨.fieldAddr 1 (.tmp 31), (some 32), (some (28, false))⟩, 32767⟩,
  ⟨⟨.load none (.tmp 32), (some 33), (some (28, false))⟩, 65535⟩,
  ⟨⟨.move (.tmp 1), (some 34), (some (28, false))⟩, 4095⟩,
  ⟨⟨.move (.tmp 5), (some 35), (some (28, false))⟩, 4095⟩,
  ⟨⟨.addrSl 3 (.tmp 34) (.tmp 35), (some 36), (some (28, false))⟩, 397311⟩,
  ⟨⟨.fieldAddr 1 (.tmp 36), (some 37), (some (28, false))⟩, 921599⟩,
  ⟨⟨.load none (.tmp 37), (some 38), (some (28, false))⟩, 1970175⟩,
  ⟨⟨.bin .neq (.tmp 33) (.tmp 38), (some 39), (some (28, false))⟩, 4194303⟩,
  ⟨⟨.pick (.tmp 28) (.const (.bool true)) (.tmp 39), (some 40), none⟩, 8388607⟩,
  ⟨⟨.move (.tmp 40), (some 41), none⟩, 16777215⟩,
  ⟨⟨.move (.tmp 0), (some 42), (some (41, false))⟩, 33554431⟩,
  ⟨⟨.move (.tmp 5), (some 43), (some (41, false))⟩, 33554431⟩,
  ⟨⟨.addrSl 3 (.tmp 42) (.tmp 43), (some 44), (some (41, false))⟩, 134217727⟩,
  ⟨⟨.fieldAddr 2 (.tmp 44), (some 45), (some (41, false))⟩, 268435455⟩,
  ⟨⟨.load none (.tmp 45), (some 46), (some (41, false))⟩, 536870911⟩,
  ⟨⟨.move (.tmp 1), (some 47), (some (41, false))⟩, 33554431⟩,
  ⟨⟨.move (.tmp 5), (some 48), (some (41, false))⟩, 33554431⟩,
  ⟨⟨.addrSl 3 (.tmp 47) (.tmp 48), (some 49), (some (41, false))⟩, 3254779903⟩,
  ⟨⟨.fieldAddr 2 (.tmp 49), (some 50), (some (41, false))⟩, 7549747199⟩,
  ⟨⟨.load none (.tmp 50), (some 51), (some (41, false))⟩, 16139681791⟩,
  ⟨⟨.call (.func 22) [(.tmp 46), (.tmp 51)], (some 52), (some (41, false))⟩, 34359738367⟩,
  ⟨⟨.un .not (.tmp 52), (some 53), (some (41, false))⟩, 68719476735⟩,
  ⟨⟨.pick (.tmp 41) (.const (.bool true)) (.tmp 53), (some 54), none⟩, 137438953471⟩]
def o13_7 : List AOper := [⟨.move (.const (.bool false)), (some 4), none⟩]
def o13_8 : List AOper := [⟨.move (.tmp 5), (some 15), none⟩,
  ⟨.bin .add (.tmp 15) (.const (.int .i64 1)), (some 16), none⟩,
  ⟨.move (.tmp 16), (some 5), none⟩]
def b13_4 : ACode := (.seq (.seq (.ops o13_5) (.cond (.tmp 14) .skip (.exit 0))) (.seq (.block 1 (.seq (.draw d13_6) (.cond (.tmp 54) (.seq (.ops o13_7) .ret) .skip))) (.ops o13_8)))
def o13_9 : List AOper := [⟨.move (.const (.bool true)), (some 4), none⟩]
def ir13 : AFn := ⟨55, [.tmp 4], (.seq (.ops o13_0) (.seq (.seq (.ops o13_1) (.cond (.tmp 10) (.seq (.ops o13_2) .ret) .skip)) (.seq (.seq (.ops o13_3) (.block 0 (.loop b13_4))) (.seq (.ops o13_9) .ret))))⟩
theorem ir13_eq : fnsOf Try.prog 13 = some ir13 := by kernel_rfl

/-! F14 lookout/lookoutref01.SameMap -/
def o14_0 : List AOper := [⟨.move (.const (.bool false)), (some 4), none⟩]
def o14_1 : List AOper := [⟨.move (.tmp 0), (some 7), none⟩,
  ⟨.bu .len [(.tmp 7)], (some 8), none⟩,
  ⟨.move (.tmp 1), (some 9), none⟩,
  ⟨.bu .len [(.tmp 9)], (some 10), none⟩,
  ⟨.bin .neq (.tmp 8) (.tmp 10), (some 11), none⟩]
def o14_2 : List AOper := [⟨.move (.const (.bool false)), (some 4), none⟩]
def o14_3 : List AOper := [⟨.move (.const (.int .i64 0)), (some 5), none⟩]
def o14_5 : List AOper := [⟨.move (.tmp 5), (some 12), none⟩,
  ⟨.move (.tmp 0), (some 13), none⟩,
  ⟨.bu .len [(.tmp 13)], (some 14), none⟩,
  ⟨.bin .lss (.tmp 12) (.tmp 14), (some 15), none⟩]
def d14_6 : List DOper := [⟨⟨.move (.tmp 0), (some 18), none⟩, 0⟩,
  ⟨⟨.move (.tmp 5), (some 19), none⟩, 0⟩,
  ⟨⟨.addrSl 1 (.tmp 18) (.tmp 19), (some 20), none⟩, 3⟩,
  ⟨⟨.load none (.tmp 20), (some 21), none⟩, 7⟩,
  ⟨⟨.move (.tmp 1), (some 22), none⟩, 0⟩,
  ⟨⟨.move (.tmp 5), (some 23), none⟩, 0⟩,
  ⟨⟨.addrSl 1 (.tmp 22) (.tmp 23), (some 24), none⟩, 48⟩,
  ⟨⟨.load none (.tmp 24), (some 25), none⟩, 112⟩,
  ⟨⟨.call (.func 35) [(.tmp 21), (.tmp 25)], (some 26), none⟩, 255⟩,
  ⟨⟨.move (.tmp 26), (some 6), none⟩, 511⟩]
def o14_7 : List AOper := [⟨.move (.tmp 6), (some 27), none⟩,
  ⟨.un .not (.tmp 27), (some 28), none⟩]
def o14_8 : List AOper := [⟨.move (.const (.bool false)), (some 4), none⟩]
def o14_9 : List AOper := [⟨.move (.tmp 5), (some 16), none⟩,
  ⟨.bin .add (.tmp 16) (.const (.int .i64 1)), (some 17), none⟩,
  ⟨.move (.tmp 17), (some 5), none⟩]
def b14_4 : ACode := (.seq (.seq (.ops o14_5) (.cond (.tmp 15) .skip (.exit 0))) (.seq (.block 1 (.seq (.draw d14_6) (.seq (.ops o14_7) (.cond (.tmp 28) (.seq (.ops o14_8) .ret) .skip)))) (.ops o14_9)))
def o14_10 : List AOper := [⟨.move (.const (.bool true)), (some 4), none⟩]
def ir14 : AFn := ⟨29, [.tmp 4], (.seq (.ops o14_0) (.seq (.seq (.ops o14_1) (.cond (.tmp 11) (.seq (.ops o14_2) .ret) .skip)) (.seq (.seq (.ops o14_3) (.block 0 (.loop b14_4))) (.seq (.ops o14_10) .ret))))⟩
theorem ir14_eq : fnsOf Try.prog 14 = some ir14 := by kernel_rfl

/-! F22 lookout/lookoutref01.SameFloat -/
def o22_0 : List AOper := [⟨.move (.const (.bool false)), (some 4), none⟩]
def o22_1 : List AOper := [⟨.move (.tmp 0), (some 5), none⟩,
  ⟨.move (.tmp 0), (some 6), none⟩,
  ⟨.bin .neq (.tmp 5) (.tmp 6), (some 7), none⟩,
  ⟨.move (.tmp 7), (some 8), none⟩,
  ⟨.move (.tmp 1), (some 9), (some (8, false))⟩,
  ⟨.move (.tmp 1), (some 10), (some (8, false))⟩,
  ⟨.bin .neq (.tmp 9) (.tmp 10), (some 11), (some (8, false))⟩,
  ⟨.pick (.tmp 8) (.const (.bool true)) (.tmp 11), (some 12), none⟩]
def o22_2 : List AOper := [⟨.move (.tmp 0), (some 13), none⟩,
  ⟨.move (.tmp 0), (some 14), none⟩,
  ⟨.bin .neq (.tmp 13) (.tmp 14), (some 15), none⟩,
  ⟨.move (.tmp 15), (some 16), none⟩,
  ⟨.move (.tmp 1), (some 17), (some (16, true))⟩,
  ⟨.move (.tmp 1), (some 18), (some (16, true))⟩,
  ⟨.bin .neq (.tmp 17) (.tmp 18), (some 19), (some (16, true))⟩,
  ⟨.pick (.tmp 16) (.tmp 19) (.const (.bool false)), (some 20), none⟩,
  ⟨.move (.tmp 20), (some 4), none⟩]
def o22_3 : List AOper := [⟨.move (.tmp 0), (some 21), none⟩,
  ⟨.ext 0 50 [(.tmp 21)], (some 22), none⟩,
  ⟨.move (.tmp 1), (some 23), none⟩,
  ⟨.ext 0 50 [(.tmp 23)], (some 24), none⟩,
  ⟨.bin .eql (.tmp 22) (.tmp 24), (some 25), none⟩,
  ⟨.move (.tmp 25), (some 4), none⟩]
def ir22 : AFn := ⟨26, [.tmp 4], (.seq (.ops o22_0) (.seq (.seq (.ops o22_1) (.cond (.tmp 12) (.seq (.ops o22_2) .ret) .skip)) (.seq (.ops o22_3) .ret)))⟩
theorem ir22_eq : fnsOf Try.prog 22 = some ir22 := by kernel_rfl

/-! F32 lookout/lookoutref15.around -/
def o32_0 : List AOper := [⟨.move (.const (.slice none 0 0)), (some 8), none⟩]
def o32_1 : List AOper := [⟨.move (.const (.slice none 0 0)), (some 9), none⟩]
def o32_2 : List AOper := [⟨.move (.const (.int .i64 (-1))), (some 10), none⟩]
def o32_4 : List AOper := [⟨.move (.tmp 10), (some 14), none⟩,
  ⟨.bin .leq (.tmp 14) (.const (.int .i64 1)), (some 15), none⟩]
def o32_5 : List AOper := [⟨.move (.const (.int .i64 (-1))), (some 11), none⟩]
def o32_7 : List AOper := [⟨.move (.tmp 11), (some 18), none⟩,
  ⟨.bin .leq (.tmp 18) (.const (.int .i64 1)), (some 19), none⟩]
def o32_8 : List AOper := [⟨.move (.tmp 1), (some 22), none⟩,
  ⟨.move (.tmp 10), (some 23), none⟩,
  ⟨.bin .add (.tmp 22) (.tmp 23), (some 24), none⟩,
  ⟨.move (.tmp 0), (some 25), none⟩,
  ⟨.bu .len [(.tmp 25)], (some 26), none⟩,
  ⟨.bin .add (.tmp 24) (.tmp 26), (some 27), none⟩,
  ⟨.move (.tmp 0), (some 28), none⟩,
  ⟨.bu .len [(.tmp 28)], (some 29), none⟩,
  ⟨.bin .rem (.tmp 27) (.tmp 29), (some 30), none⟩,
  ⟨.move (.tmp 30), (some 12), none⟩]
def o32_9 : List AOper := [⟨.move (.tmp 2), (some 31), none⟩,
  ⟨.move (.tmp 11), (some 32), none⟩,
  ⟨.bin .add (.tmp 31) (.tmp 32), (some 33), none⟩,
  ⟨.move (.tmp 33), (some 13), none⟩]
def o32_10 : List AOper := [⟨.move (.tmp 13), (some 34), none⟩,
  ⟨.bin .geq (.tmp 34) (.const (.int .i64 0)), (some 35), none⟩,
  ⟨.move (.tmp 35), (some 36), none⟩,
  ⟨.move (.tmp 13), (some 37), (some (36, true))⟩,
  ⟨.move (.tmp 3), (some 38), (some (36, true))⟩,
  ⟨.bin .lss (.tmp 37) (.tmp 38), (some 39), (some (36, true))⟩,
  ⟨.pick (.tmp 36) (.tmp 39) (.const (.bool false)), (some 40), none⟩]
def o32_11 : List AOper := [⟨.move (.tmp 9), (some 41), none⟩,
  ⟨.move (.tmp 12), (some 42), none⟩,
  ⟨.move (.tmp 13), (some 43), none⟩,
  ⟨.move (.tmp 0), (some 44), none⟩,
  ⟨.move (.tmp 12), (some 45), none⟩,
  ⟨.addrSl 1 (.tmp 44) (.tmp 45), (some 46), none⟩,
  ⟨.load none (.tmp 46), (some 47), none⟩,
  ⟨.move (.tmp 13), (some 48), none⟩,
  ⟨.addrSl 1 (.tmp 47) (.tmp 48), (some 49), none⟩,
  ⟨.load none (.tmp 49), (some 50), none⟩,
  ⟨.build [(.int .i64 0), (.int .i64 0), (.float .f64 0)] [(0, 1, (.tmp 42)), (1, 1, (.tmp 43)), (2, 1, (.tmp 50))], (some 51), none⟩,
  ⟨.buildSlice 29 3 [(.int .i64 0), (.int .i64 0), (.float .f64 0)] 1 [(0, (.tmp 51))], (some 52), none⟩,
  ⟨.append 29 24 3 [(.int .i64 0), (.int .i64 0), (.float .f64 0)] (.tmp 41) (.tmp 52), (some 53), none⟩,
  ⟨.move (.tmp 53), (some 9), none⟩]
def o32_12 : List AOper := [⟨.move (.tmp 11), (some 20), none⟩,
  ⟨.bin .add (.tmp 20) (.const (.int .i64 1)), (some 21), none⟩,
  ⟨.move (.tmp 21), (some 11), none⟩]
def b32_6 : ACode := (.seq (.seq (.ops o32_7) (.cond (.tmp 19) .skip (.exit 2))) (.seq (.block 3 (.seq (.ops o32_8) (.seq (.ops o32_9) (.seq (.ops o32_10) (.cond (.tmp 40) (.ops o32_11) .skip))))) (.ops o32_12)))
def o32_13 : List AOper := [⟨.move (.tmp 10), (some 16), none⟩,
  ⟨.bin .add (.tmp 16) (.const (.int .i64 1)), (some 17), none⟩,
  ⟨.move (.tmp 17), (some 10), none⟩]
def b32_3 : ACode := (.seq (.seq (.ops o32_4) (.cond (.tmp 15) .skip (.exit 0))) (.seq (.block 1 (.seq (.ops o32_5) (.block 2 (.loop b32_6)))) (.ops o32_13)))
def o32_14 : List AOper := [⟨.move (.tmp 9), (some 54), none⟩,
  ⟨.move (.tmp 54), (some 8), none⟩]
def ir32 : AFn := ⟨55, [.tmp 8], (.seq (.ops o32_0) (.seq (.ops o32_1) (.seq (.seq (.ops o32_2) (.block 0 (.loop b32_3))) (.seq (.ops o32_14) .ret))))⟩
theorem ir32_eq : fnsOf Try.prog 32 = some ir32 := by kernel_rfl

/-! F33 lookout/lookoutref15.Next -/
def o33_0 : List AOper := [⟨.box 29 (.tmp 1), (some 4), none⟩,
  ⟨.box 29 (.tmp 2), (some 5), none⟩,
  ⟨.move (.const (.bool false)), (some 6), none⟩]
def o33_1 : List AOper := [⟨.fieldAddr 0 (.tmp 4), (some 9), none⟩,
  ⟨.load none (.tmp 9), (some 10), none⟩,
  ⟨.fieldAddr 0 (.tmp 5), (some 11), none⟩,
  ⟨.load none (.tmp 11), (some 12), none⟩,
  ⟨.bin .sub (.tmp 10) (.tmp 12), (some 13), none⟩,
  ⟨.move (.tmp 13), (some 7), none⟩]
def o33_2 : List AOper := [⟨.fieldAddr 1 (.tmp 4), (some 14), none⟩,
  ⟨.load none (.tmp 14), (some 15), none⟩,
  ⟨.fieldAddr 1 (.tmp 5), (some 16), none⟩,
  ⟨.load none (.tmp 16), (some 17), none⟩,
  ⟨.bin .sub (.tmp 15) (.tmp 17), (some 18), none⟩,
  ⟨.move (.tmp 18), (some 8), none⟩]
def o33_3 : List AOper := [⟨.move (.tmp 7), (some 19), none⟩,
  ⟨.bin .lss (.tmp 19) (.const (.int .i64 0)), (some 20), none⟩]
def o33_4 : List AOper := [⟨.move (.tmp 7), (some 21), none⟩,
  ⟨.un .neg (.tmp 21), (some 22), none⟩,
  ⟨.move (.tmp 22), (some 7), none⟩]
def o33_5 : List AOper := [⟨.move (.tmp 8), (some 23), none⟩,
  ⟨.bin .lss (.tmp 23) (.const (.int .i64 (-1))), (some 24), none⟩,
  ⟨.move (.tmp 24), (some 25), none⟩,
  ⟨.move (.tmp 8), (some 26), (some (25, false))⟩,
  ⟨.bin .gtr (.tmp 26) (.const (.int .i64 1)), (some 27), (some (25, false))⟩,
  ⟨.pick (.tmp 25) (.const (.bool true)) (.tmp 27), (some 28), none⟩,
  ⟨.move (.tmp 28), (some 29), none⟩,
  ⟨.move (.tmp 7), (some 30), (some (29, false))⟩,
  ⟨.bin .eql (.tmp 30) (.const (.int .i64 0)), (some 31), (some (29, false))⟩,
  ⟨.move (.tmp 31), (some 32), (some (29, false))⟩,
  ⟨.move (.tmp 8), (some 33), (some (32, true))⟩,
  ⟨.bin .eql (.tmp 33) (.const (.int .i64 0)), (some 34), (some (32, true))⟩,
  ⟨.pick (.tmp 32) (.tmp 34) (.const (.bool false)), (some 35), (some (29, false))⟩,
  ⟨.pick (.tmp 29) (.const (.bool true)) (.tmp 35), (some 36), none⟩]
def o33_6 : List AOper := [⟨.move (.const (.bool false)), (some 6), none⟩]
def o33_7 : List AOper := [⟨.move (.tmp 7), (some 37), none⟩,
  ⟨.bin .lss (.tmp 37) (.const (.int .i64 2)), (some 38), none⟩,
  ⟨.move (.tmp 38), (some 39), none⟩,
  ⟨.move (.tmp 7), (some 40), (some (39, false))⟩,
  ⟨.move (.tmp 0), (some 41), (some (39, false))⟩,
  ⟨.bin .sub (.tmp 41) (.const (.int .i64 1)), (some 42), (some (39, false))⟩,
  ⟨.bin .eql (.tmp 40) (.tmp 42), (some 43), (some (39, false))⟩,
  ⟨.pick (.tmp 39) (.const (.bool true)) (.tmp 43), (some 44), none⟩,
  ⟨.move (.tmp 44), (some 6), none⟩]
def ir33 : AFn := ⟨45, [.tmp 6], (.seq (.ops o33_0) (.seq (.ops o33_1) (.seq (.ops o33_2) (.seq (.seq (.ops o33_3) (.cond (.tmp 20) (.ops o33_4) .skip)) (.seq (.seq (.ops o33_5) (.cond (.tmp 36) (.seq (.ops o33_6) .ret) .skip)) (.seq (.ops o33_7) .ret))))))⟩
theorem ir33_eq : fnsOf Try.prog 33 = some ir33 := by kernel_rfl

/-! F34 lookout/lookoutref15.beats -/
def o34_0 : List AOper := [⟨.box 29 (.tmp 0), (some 2), none⟩,
  ⟨.box 29 (.tmp 1), (some 3), none⟩,
  ⟨.move (.const (.bool false)), (some 4), none⟩]
def o34_1 : List AOper := [⟨.fieldAddr 2 (.tmp 2), (some 5), none⟩,
  ⟨.load none (.tmp 5), (some 6), none⟩,
  ⟨.fieldAddr 2 (.tmp 3), (some 7), none⟩,
  ⟨.load none (.tmp 7), (some 8), none⟩,
  ⟨.bin .gtr (.tmp 6) (.tmp 8), (some 9), none⟩,
  ⟨.move (.tmp 9), (some 10), none⟩,
  ⟨.fieldAddr 2 (.tmp 2), (some 11), (some (10, false))⟩,
  ⟨.load none (.tmp 11), (some 12), (some (10, false))⟩,
  ⟨.fieldAddr 2 (.tmp 3), (some 13), (some (10, false))⟩,
  ⟨.load none (.tmp 13), (some 14), (some (10, false))⟩,
  ⟨.bin .eql (.tmp 12) (.tmp 14), (some 15), (some (10, false))⟩,
  ⟨.move (.tmp 15), (some 16), (some (10, false))⟩,
  ⟨.load (some 3) (.tmp 2), (some 17), (some (16, true))⟩,
  ⟨.load (some 3) (.tmp 3), (some 18), (some (16, true))⟩,
  ⟨.call (.func 53) [(.tmp 17), (.tmp 18)], (some 19), (some (16, true))⟩,
  ⟨.pick (.tmp 16) (.tmp 19) (.const (.bool false)), (some 20), (some (10, false))⟩,
  ⟨.pick (.tmp 10) (.const (.bool true)) (.tmp 20), (some 21), none⟩,
  ⟨.move (.tmp 21), (some 4), none⟩]
def ir34 : AFn := ⟨22, [.tmp 4], (.seq (.ops o34_0) (.seq (.ops o34_1) .ret))⟩
theorem ir34_eq : fnsOf Try.prog 34 = some ir34 := by kernel_rfl

/-! F35 lookout/lookoutref01.SameFloats -/
def o35_0 : List AOper := [⟨.move (.const (.bool false)), (some 4), none⟩]
def o35_1 : List AOper := [⟨.move (.tmp 0), (some 7), none⟩,
  ⟨.bu .len [(.tmp 7)], (some 8), none⟩,
  ⟨.move (.tmp 1), (some 9), none⟩,
  ⟨.bu .len [(.tmp 9)], (some 10), none⟩,
  ⟨.bin .neq (.tmp 8) (.tmp 10), (some 11), none⟩]
def o35_2 : List AOper := [⟨.move (.const (.bool false)), (some 4), none⟩]
def o35_3 : List AOper := [⟨.move (.const (.int .i64 0)), (some 5), none⟩]
def o35_5 : List AOper := [⟨.move (.tmp 5), (some 12), none⟩,
  ⟨.move (.tmp 0), (some 13), none⟩,
  ⟨.bu .len [(.tmp 13)], (some 14), none⟩,
  ⟨.bin .lss (.tmp 12) (.tmp 14), (some 15), none⟩]
def d35_6 : List DOper := [⟨⟨.move (.tmp 0), (some 18), none⟩, 0⟩,
  ⟨⟨.move (.tmp 5), (some 19), none⟩, 0⟩,
  ⟨⟨.addrSl 1 (.tmp 18) (.tmp 19), (some 20), none⟩, 3⟩,
  ⟨⟨.load none (.tmp 20), (some 21), none⟩, 7⟩,
  ⟨⟨.move (.tmp 1), (some 22), none⟩, 0⟩,
  ⟨⟨.move (.tmp 5), (some 23), none⟩, 0⟩,
  ⟨⟨.addrSl 1 (.tmp 22) (.tmp 23), (some 24), none⟩, 48⟩,
  ⟨⟨.load none (.tmp 24), (some 25), none⟩, 112⟩,
  ⟨⟨.call (.func 22) [(.tmp 21), (.tmp 25)], (some 26), none⟩, 255⟩,
  ⟨⟨.move (.tmp 26), (some 6), none⟩, 511⟩]
def o35_7 : List AOper := [⟨.move (.tmp 6), (some 27), none⟩,
  ⟨.un .not (.tmp 27), (some 28), none⟩]
def o35_8 : List AOper := [⟨.move (.const (.bool false)), (some 4), none⟩]
def o35_9 : List AOper := [⟨.move (.tmp 5), (some 16), none⟩,
  ⟨.bin .add (.tmp 16) (.const (.int .i64 1)), (some 17), none⟩,
  ⟨.move (.tmp 17), (some 5), none⟩]
def b35_4 : ACode := (.seq (.seq (.ops o35_5) (.cond (.tmp 15) .skip (.exit 0))) (.seq (.block 1 (.seq (.draw d35_6) (.seq (.ops o35_7) (.cond (.tmp 28) (.seq (.ops o35_8) .ret) .skip)))) (.ops o35_9)))
def o35_10 : List AOper := [⟨.move (.const (.bool true)), (some 4), none⟩]
def ir35 : AFn := ⟨29, [.tmp 4], (.seq (.ops o35_0) (.seq (.seq (.ops o35_1) (.cond (.tmp 11) (.seq (.ops o35_2) .ret) .skip)) (.seq (.seq (.ops o35_3) (.block 0 (.loop b35_4))) (.seq (.ops o35_10) .ret))))⟩
theorem ir35_eq : fnsOf Try.prog 35 = some ir35 := by kernel_rfl

/-! F53 lookout/lookoutref15.Ahead -/
def o53_0 : List AOper := [⟨.box 29 (.tmp 0), (some 2), none⟩,
  ⟨.box 29 (.tmp 1), (some 3), none⟩,
  ⟨.move (.const (.bool false)), (some 4), none⟩]
def o53_1 : List AOper := [⟨.fieldAddr 0 (.tmp 2), (some 5), none⟩,
  ⟨.load none (.tmp 5), (some 6), none⟩,
  ⟨.fieldAddr 0 (.tmp 3), (some 7), none⟩,
  ⟨.load none (.tmp 7), (some 8), none⟩,
  ⟨.bin .lss (.tmp 6) (.tmp 8), (some 9), none⟩,
  ⟨.move (.tmp 9), (some 10), none⟩,
  ⟨.fieldAddr 0 (.tmp 2), (some 11), (some (10, false))⟩,
  ⟨.load none (.tmp 11), (some 12), (some (10, false))⟩,
  ⟨.fieldAddr 0 (.tmp 3), (some 13), (some (10, false))⟩,
  ⟨.load none (.tmp 13), (some 14), (some (10, false))⟩,
  ⟨.bin .eql (.tmp 12) (.tmp 14), (some 15), (some (10, false))⟩,
  ⟨.move (.tmp 15), (some 16), (some (10, false))⟩,
  ⟨.fieldAddr 1 (.tmp 2), (some 17), (some (16, true))⟩,
  ⟨.load none (.tmp 17), (some 18), (some (16, true))⟩,
  ⟨.fieldAddr 1 (.tmp 3), (some 19), (some (16, true))⟩,
  ⟨.load none (.tmp 19), (some 20), (some (16, true))⟩,
  ⟨.bin .lss (.tmp 18) (.tmp 20), (some 21), (some (16, true))⟩,
  ⟨.pick (.tmp 16) (.tmp 21) (.const (.bool false)), (some 22), (some (10, false))⟩,
  ⟨.pick (.tmp 10) (.const (.bool true)) (.tmp 22), (some 23), none⟩,
  ⟨.move (.tmp 23), (some 4), none⟩]
def ir53 : AFn := ⟨24, [.tmp 4], (.seq (.ops o53_0) (.seq (.ops o53_1) .ret))⟩
theorem ir53_eq : fnsOf Try.prog 53 = some ir53 := by kernel_rfl


end Go.Proofs.Ytpphomoijlilfaa
