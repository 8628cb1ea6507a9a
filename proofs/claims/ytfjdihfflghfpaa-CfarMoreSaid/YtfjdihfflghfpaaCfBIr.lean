/- The small machine's text of functions of the seat. -/
import Derived.Test.YtfjdihfflghfpaaRows
import Derived.Test.YtfjdihfflghfpaaVam25
import Derived.KernelRfl
namespace Go.Proofs.Ytfjdihfflghfpaa
open Go Go.Vam

/-! F3 lookout/lookoutlaw14.CfarLines -/
def o3_0 : List AOper := [⟨.box 26 (.tmp 1), (some 4), none⟩,
  ⟨.move (.const (.bool false)), (some 6), none⟩]
def o3_1 : List AOper := [⟨.move (.tmp 0), (some 17), none⟩,
  ⟨.bu .len [(.tmp 17)], (some 18), none⟩,
  ⟨.load (some 5) (.tmp 4), (some 19), none⟩,
  ⟨.call (.func 9) [(.tmp 18), (.tmp 19)], (some 20), none⟩]
def o3_2 : List AOper := [⟨.call (.func 10) [], (some 21), none⟩,
  ⟨.move (.tmp 21), (some 6), none⟩]
def o3_3 : List AOper := [⟨.move (.tmp 0), (some 22), none⟩,
  ⟨.call (.func 11) [(.tmp 22)], (some 23), none⟩,
  ⟨.move (.tmp 23), (some 7), none⟩]
def o3_4 : List AOper := [⟨.move (.tmp 7), (some 25), none⟩,
  ⟨.move (.tmp 2), (some 26), none⟩,
  ⟨.fieldAddr 0 (.tmp 4), (some 27), none⟩,
  ⟨.load none (.tmp 27), (some 28), none⟩,
  ⟨.fieldAddr 1 (.tmp 4), (some 29), none⟩,
  ⟨.load none (.tmp 29), (some 30), none⟩,
  ⟨.fieldAddr 2 (.tmp 4), (some 31), none⟩,
  ⟨.load none (.tmp 31), (some 32), none⟩,
  ⟨.fieldAddr 3 (.tmp 4), (some 33), none⟩,
  ⟨.load none (.tmp 33), (some 34), none⟩,
  ⟨.call (.func 12) [(.tmp 25), (.tmp 26), (.tmp 28), (.tmp 30), (.tmp 32), (.tmp 34)], (some 35), none⟩,
  ⟨.move (.tmp 35), (some 24), none⟩,
  ⟨.extract (.tmp 24) 0, (some 36), none⟩,
  ⟨.extract (.tmp 24) 1, (some 37), none⟩,
  ⟨.move (.tmp 36), (some 8), none⟩,
  ⟨.move (.tmp 37), (some 9), none⟩]
def o3_5 : List AOper := [⟨.move (.tmp 0), (some 39), none⟩,
  ⟨.move (.tmp 2), (some 40), none⟩,
  ⟨.fieldAddr 0 (.tmp 4), (some 41), none⟩,
  ⟨.load none (.tmp 41), (some 42), none⟩,
  ⟨.fieldAddr 1 (.tmp 4), (some 43), none⟩,
  ⟨.load none (.tmp 43), (some 44), none⟩,
  ⟨.fieldAddr 2 (.tmp 4), (some 45), none⟩,
  ⟨.load none (.tmp 45), (some 46), none⟩,
  ⟨.fieldAddr 3 (.tmp 4), (some 47), none⟩,
  ⟨.load none (.tmp 47), (some 48), none⟩,
  ⟨.call (.func 13) [(.tmp 39), (.tmp 40), (.tmp 42), (.tmp 44), (.tmp 46), (.tmp 48)], (some 49), none⟩,
  ⟨.move (.tmp 49), (some 38), none⟩,
  ⟨.extract (.tmp 38) 0, (some 50), none⟩,
  ⟨.extract (.tmp 38) 1, (some 51), none⟩,
  ⟨.move (.tmp 50), (some 10), none⟩,
  ⟨.move (.tmp 51), (some 11), none⟩]
def o3_6 : List AOper := [⟨.move (.tmp 8), (some 52), none⟩,
  ⟨.move (.tmp 10), (some 53), none⟩,
  ⟨.call (.func 14) [(.tmp 52), (.tmp 53)], (some 54), none⟩,
  ⟨.un .not (.tmp 54), (some 55), none⟩,
  ⟨.move (.tmp 55), (some 56), none⟩,
  ⟨.move (.tmp 9), (some 57), (some (56, false))⟩,
  ⟨.move (.tmp 11), (some 58), (some (56, false))⟩,
  ⟨.bin .neq (.tmp 57) (.tmp 58), (some 59), (some (56, false))⟩,
  ⟨.pick (.tmp 56) (.const (.bool true)) (.tmp 59), (some 60), none⟩,
  ⟨.move (.tmp 60), (some 61), none⟩,
  ⟨.move (.tmp 7), (some 62), (some (61, false))⟩,
  ⟨.move (.tmp 0), (some 63), (some (61, false))⟩,
  ⟨.call (.func 15) [(.tmp 62), (.tmp 63)], (some 64), (some (61, false))⟩,
  ⟨.un .not (.tmp 64), (some 65), (some (61, false))⟩,
  ⟨.pick (.tmp 61) (.const (.bool true)) (.tmp 65), (some 66), none⟩]
def o3_7 : List AOper := [⟨.move (.const (.bool false)), (some 6), none⟩]
def o3_8 : List AOper := [⟨.move (.tmp 7), (some 68), none⟩,
  ⟨.fieldAddr 0 (.tmp 4), (some 69), none⟩,
  ⟨.load none (.tmp 69), (some 70), none⟩,
  ⟨.fieldAddr 1 (.tmp 4), (some 71), none⟩,
  ⟨.load none (.tmp 71), (some 72), none⟩,
  ⟨.fieldAddr 2 (.tmp 4), (some 73), none⟩,
  ⟨.load none (.tmp 73), (some 74), none⟩,
  ⟨.fieldAddr 3 (.tmp 4), (some 75), none⟩,
  ⟨.load none (.tmp 75), (some 76), none⟩,
  ⟨.fieldAddr 4 (.tmp 4), (some 77), none⟩,
  ⟨.load none (.tmp 77), (some 78), none⟩,
  ⟨.call (.func 16) [(.tmp 68), (.tmp 70), (.tmp 72), (.tmp 74), (.tmp 76), (.tmp 78)], (some 79), none⟩,
  ⟨.move (.tmp 79), (some 67), none⟩,
  ⟨.extract (.tmp 67) 0, (some 80), none⟩,
  ⟨.extract (.tmp 67) 1, (some 81), none⟩,
  ⟨.move (.tmp 80), (some 12), none⟩,
  ⟨.move (.tmp 81), (some 13), none⟩]
def o3_9 : List AOper := [⟨.move (.tmp 0), (some 83), none⟩,
  ⟨.fieldAddr 0 (.tmp 4), (some 84), none⟩,
  ⟨.load none (.tmp 84), (some 85), none⟩,
  ⟨.fieldAddr 1 (.tmp 4), (some 86), none⟩,
  ⟨.load none (.tmp 86), (some 87), none⟩,
  ⟨.fieldAddr 2 (.tmp 4), (some 88), none⟩,
  ⟨.load none (.tmp 88), (some 89), none⟩,
  ⟨.fieldAddr 3 (.tmp 4), (some 90), none⟩,
  ⟨.load none (.tmp 90), (some 91), none⟩,
  ⟨.fieldAddr 4 (.tmp 4), (some 92), none⟩,
  ⟨.load none (.tmp 92), (some 93), none⟩,
  ⟨.call (.func 17) [(.tmp 83), (.tmp 85), (.tmp 87), (.tmp 89), (.tmp 91), (.tmp 93)], (some 94), none⟩,
  ⟨.move (.tmp 94), (some 82), none⟩,
  ⟨.extract (.tmp 82) 0, (some 95), none⟩,
  ⟨.extract (.tmp 82) 1, (some 96), none⟩,
  ⟨.move (.tmp 95), (some 14), none⟩,
  ⟨.move (.tmp 96), (some 15), none⟩]
def o3_10 : List AOper := [⟨.move (.tmp 13), (some 97), none⟩,
  ⟨.move (.tmp 15), (some 98), none⟩,
  ⟨.bin .neq (.tmp 97) (.tmp 98), (some 99), none⟩,
  ⟨.move (.tmp 99), (some 100), none⟩,
  ⟨.move (.tmp 12), (some 101), (some (100, false))⟩,
  ⟨.bu .len [(.tmp 101)], (some 102), (some (100, false))⟩,
  ⟨.move (.tmp 14), (some 103), (some (100, false))⟩,
  ⟨.bu .len [(.tmp 103)], (some 104), (some (100, false))⟩,
  ⟨.bin .neq (.tmp 102) (.tmp 104), (some 105), (some (100, false))⟩,
  ⟨.pick (.tmp 100) (.const (.bool true)) (.tmp 105), (some 106), none⟩,
  ⟨.move (.tmp 106), (some 107), none⟩,
  ⟨.move (.tmp 7), (some 108), (some (107, false))⟩,
  ⟨.move (.tmp 0), (some 109), (some (107, false))⟩,
  ⟨.call (.func 15) [(.tmp 108), (.tmp 109)], (some 110), (some (107, false))⟩,
  ⟨.un .not (.tmp 110), (some 111), (some (107, false))⟩,
  ⟨.pick (.tmp 107) (.const (.bool true)) (.tmp 111), (some 112), none⟩]
def o3_11 : List AOper := [⟨.move (.const (.bool false)), (some 6), none⟩]
def o3_12 : List AOper := [⟨.move (.tmp 12), (some 113), none⟩,
  ⟨.bu .len [(.tmp 113)], (some 114), none⟩,
  ⟨.move (.const (.int .i64 0)), (some 115), none⟩]
def o3_14 : List AOper := [⟨.bin .lss (.tmp 115) (.tmp 114), (some 116), none⟩]
def o3_15 : List AOper := [⟨.move (.tmp 115), (some 117), none⟩,
  ⟨.move (.tmp 117), (some 16), none⟩]
def d3_16 : List DOper := [⟨⟨.move (.tmp 12), (some 118), none⟩, 0⟩,
  ⟨⟨.move (.tmp 16), (some 119), none⟩, 0⟩,
  ⟨⟨.addrSl 1 (.tmp 118) (.tmp 119), (some 120), none⟩, 3⟩,
  ⟨⟨.load none (.tmp 120), (some 121), none⟩, 7⟩,
  ⟨⟨.move (.tmp 14), (some 122), none⟩, 0⟩,
  ⟨⟨.move (.tmp 16), (some 123), none⟩, 0⟩,
  ⟨⟨.addrSl 1 (.tmp 122) (.tmp 123), (some 124), none⟩, 48⟩,
  ⟨⟨.load none (.tmp 124), (some 125), none⟩, 112⟩,
  ⟨⟨.eq true .bool (.tmp 121) (.tmp 125), (some 126), none⟩, 255⟩]
def o3_17 : List AOper := [⟨.move (.const (.bool false)), (some 6), none⟩]
def o3_18 : List AOper := [⟨.move (.tmp 12), (some 127), none⟩,
  ⟨.move (.tmp 16), (some 128), none⟩,
  ⟨.move (.tmp 12), (some 129), none⟩,
  ⟨.move (.tmp 16), (some 130), none⟩,
  ⟨.addrSl 1 (.tmp 129) (.tmp 130), (some 131), none⟩,
  ⟨.load none (.tmp 131), (some 132), none⟩,
  ⟨.un .not (.tmp 132), (some 133), none⟩,
  ⟨.addrSl 1 (.tmp 127) (.tmp 128), (some 134), none⟩,
  ⟨.store 1 (.tmp 134) (.tmp 133), none, none⟩]
def o3_19 : List AOper := [⟨.bin .add (.tmp 115) (.const (.int .i64 1)), (some 135), none⟩,
  ⟨.move (.tmp 135), (some 115), none⟩]
def b3_13 : ACode := (.seq (.ops o3_14) (.seq (.cond (.tmp 116) .skip (.exit 0)) (.seq (.block 1 (.seq (.ops o3_15) (.seq (.seq (.draw d3_16) (.cond (.tmp 126) (.seq (.ops o3_17) .ret) .skip)) (.ops o3_18)))) (.ops o3_19))))
def o3_20 : List AOper := [⟨.move (.tmp 7), (some 136), none⟩,
  ⟨.move (.tmp 0), (some 137), none⟩,
  ⟨.call (.func 15) [(.tmp 136), (.tmp 137)], (some 138), none⟩,
  ⟨.move (.tmp 138), (some 139), none⟩,
  ⟨.call (.func 10) [], (some 140), (some (139, true))⟩,
  ⟨.pick (.tmp 139) (.tmp 140) (.const (.bool false)), (some 141), none⟩,
  ⟨.move (.tmp 141), (some 6), none⟩]
def ir3 : AFn := ⟨142, [.tmp 6], (.seq (.ops o3_0) (.seq (.seq (.ops o3_1) (.cond (.tmp 20) (.seq (.ops o3_2) .ret) .skip)) (.seq (.ops o3_3) (.seq (.ops o3_4) (.seq (.ops o3_5) (.seq (.seq (.ops o3_6) (.cond (.tmp 66) (.seq (.ops o3_7) .ret) .skip)) (.seq (.ops o3_8) (.seq (.ops o3_9) (.seq (.seq (.ops o3_10) (.cond (.tmp 112) (.seq (.ops o3_11) .ret) .skip)) (.seq (.seq (.ops o3_12) (.block 0 (.loop b3_13))) (.seq (.ops o3_20) .ret)))))))))))⟩
theorem ir3_eq : fnsOf Try.prog 3 = some ir3 := by kernel_rfl

/-! F9 lookout/lookoutlaw14.work -/
def o9_0 : List AOper := [⟨.box 26 (.tmp 1), (some 3), none⟩,
  ⟨.move (.const (.bool false)), (some 4), none⟩]
def d9_1 : List DOper := [⟨⟨.move (.tmp 0), (some 5), none⟩, 0⟩,
  ⟨⟨.bin .gtr (.tmp 5) (.const (.int .i64 65536)), (some 6), none⟩, 1⟩,
  ⟨⟨.move (.tmp 6), (some 7), none⟩, 3⟩,
  ⟨⟨.move (.tmp 0), (some 8), (some (7, false))⟩, 7⟩,
  ⟨⟨.bin .gtr (.tmp 8) (.const (.int .i64 0)), (some 9), (some (7, false))⟩, 15⟩,
  ⟨⟨.move (.tmp 9), (some 10), (some (7, false))⟩, 31⟩,
  ⟨⟨.fieldAddr 2 (.tmp 3), (some 11), (some (10, true))⟩, 63⟩,
  ⟨⟨.load none (.tmp 11), (some 12), (some (10, true))⟩, 127⟩,
  ⟨⟨.move (.tmp 0), (some 13), (some (10, true))⟩, 63⟩,
  ⟨⟨.bin .quo (.const (.int .i64 4194304)) (.tmp 13), (some 14), (some (10, true))⟩, 319⟩,
  ⟨⟨.bin .gtr (.tmp 12) (.tmp 14), (some 15), (some (10, true))⟩, 1023⟩,
  ⟨⟨.pick (.tmp 10) (.tmp 15) (.const (.bool false)), (some 16), (some (7, false))⟩, 2047⟩,
  ⟨⟨.move (.tmp 16), (some 17), (some (7, false))⟩, 4095⟩,
  ⟨⟨.move (.tmp 0), (some 18), (some (17, true))⟩, 8191⟩,
  ⟨⟨.bin .leq (.tmp 18) (.const (.int .i64 16384)), (some 19), (some (17, true))⟩, 16383⟩,
  ⟨⟨.pick (.tmp 17) (.tmp 19) (.const (.bool false)), (some 20), (some (7, false))⟩, 32767⟩,
  ⟨⟨.pick (.tmp 7) (.const (.bool true)) (.tmp 20), (some 21), none⟩, 65535⟩,
  ⟨⟨.move (.tmp 21), (some 4), none⟩, 131071⟩]
def ir9 : AFn := ⟨22, [.tmp 4], (.seq (.ops o9_0) (.seq (.draw d9_1) .ret))⟩
theorem ir9_eq : fnsOf Try.prog 9 = some ir9 := by kernel_rfl

/-! F11 lookout/lookoutlaw14.own -/
def o11_0 : List AOper := [⟨.move (.const (.slice none 0 0)), (some 2), none⟩]
def o11_1 : List AOper := [⟨.move (.tmp 0), (some 4), none⟩,
  ⟨.append 24 8 1 [(.float .f64 0)] (.const (.slice none 0 0)) (.tmp 4), (some 5), none⟩,
  ⟨.move (.tmp 5), (some 3), none⟩]
def o11_2 : List AOper := [⟨.move (.tmp 3), (some 6), none⟩,
  ⟨.buildSlice 24 1 [(.float .f64 0)] 2 [(0, (.const (.float .f64 4619567317775286272))), (1, (.const (.float .f64 4620693217682128896)))], (some 7), none⟩,
  ⟨.append 24 8 1 [(.float .f64 0)] (.tmp 6) (.tmp 7), (some 8), none⟩,
  ⟨.move (.tmp 8), (some 3), none⟩]
def o11_3 : List AOper := [⟨.move (.tmp 3), (some 9), none⟩,
  ⟨.move (.tmp 0), (some 10), none⟩,
  ⟨.bu .len [(.tmp 10)], (some 11), none⟩,
  ⟨.slSl 1 (.tmp 9) none (some (.tmp 11)) none, (some 12), none⟩,
  ⟨.move (.tmp 12), (some 2), none⟩]
def ir11 : AFn := ⟨13, [.tmp 2], (.seq (.ops o11_0) (.seq (.ops o11_1) (.seq (.ops o11_2) (.seq (.ops o11_3) .ret))))⟩
theorem ir11_eq : fnsOf Try.prog 11 = some ir11 := by kernel_rfl

/-! F12 lookout/cfar.Level -/
def o12_0 : List AOper := [⟨.move (.const (.float .f64 0)), (some 12), none⟩,
  ⟨.move (.const (.int .i64 0)), (some 13), none⟩]
def o12_1 : List AOper := [⟨.move (.tmp 0), (some 17), none⟩,
  ⟨.move (.tmp 2), (some 18), none⟩,
  ⟨.move (.tmp 3), (some 19), none⟩,
  ⟨.move (.tmp 4), (some 20), none⟩,
  ⟨.move (.tmp 5), (some 21), none⟩,
  ⟨.call (.func 36) [(.tmp 17), (.tmp 18), (.tmp 19), (.tmp 20), (.tmp 21)], (some 22), none⟩,
  ⟨.move (.tmp 22), (some 16), none⟩,
  ⟨.extract (.tmp 16) 0, (some 23), none⟩,
  ⟨.extract (.tmp 16) 1, (some 24), none⟩,
  ⟨.alloc 64 [.nilFunc, (.int .i64 0), (.int .i64 0), (.int .i64 0)], (some 14), none⟩,
  ⟨.store 4 (.tmp 14) (.tmp 23), none, none⟩,
  ⟨.move (.tmp 24), (some 15), none⟩]
def o12_2 : List AOper := [⟨.move (.tmp 15), (some 25), none⟩,
  ⟨.bin .neq (.tmp 25) (.const (.int .i64 0)), (some 26), none⟩]
def o12_3 : List AOper := [⟨.move (.tmp 15), (some 27), none⟩,
  ⟨.move (.const (.float .f64 0)), (some 12), none⟩,
  ⟨.move (.tmp 27), (some 13), none⟩]
def o12_4 : List AOper := [⟨.move (.tmp 1), (some 28), none⟩,
  ⟨.bin .lss (.tmp 28) (.const (.int .i64 0)), (some 29), none⟩,
  ⟨.move (.tmp 29), (some 30), none⟩,
  ⟨.move (.tmp 1), (some 31), (some (30, false))⟩,
  ⟨.move (.tmp 0), (some 32), (some (30, false))⟩,
  ⟨.bu .len [(.tmp 32)], (some 33), (some (30, false))⟩,
  ⟨.bin .geq (.tmp 31) (.tmp 33), (some 34), (some (30, false))⟩,
  ⟨.pick (.tmp 30) (.const (.bool true)) (.tmp 34), (some 35), none⟩]
def o12_5 : List AOper := [⟨.move (.const (.float .f64 0)), (some 12), none⟩,
  ⟨.move (.const (.int .i64 2)), (some 13), none⟩]
def o12_6 : List AOper := [⟨.load (some 4) (.tmp 14), (some 36), none⟩,
  ⟨.move (.tmp 0), (some 37), none⟩,
  ⟨.move (.tmp 1), (some 38), none⟩,
  ⟨.call (.func 37) [(.tmp 36), (.tmp 37), (.tmp 38)], (some 39), none⟩,
  ⟨.move (.tmp 39), (some 12), none⟩,
  ⟨.move (.const (.int .i64 0)), (some 13), none⟩]
def ir12 : AFn := ⟨40, [.tmp 12, .tmp 13], (.seq (.ops o12_0) (.seq (.ops o12_1) (.seq (.seq (.ops o12_2) (.cond (.tmp 26) (.seq (.ops o12_3) .ret) .skip)) (.seq (.seq (.ops o12_4) (.cond (.tmp 35) (.seq (.ops o12_5) .ret) .skip)) (.seq (.ops o12_6) .ret)))))⟩
theorem ir12_eq : fnsOf Try.prog 12 = some ir12 := by kernel_rfl

/-! F13 lookout/lookoutref14.Level -/
def o13_0 : List AOper := [⟨.move (.const (.float .f64 0)), (some 12), none⟩,
  ⟨.move (.const (.int .i64 0)), (some 13), none⟩]
def o13_1 : List AOper := [⟨.move (.tmp 0), (some 14), none⟩,
  ⟨.bu .len [(.tmp 14)], (some 15), none⟩,
  ⟨.bin .gtr (.tmp 15) (.const (.int .i64 16384)), (some 16), none⟩]
def o13_2 : List AOper := [⟨.move (.const (.float .f64 0)), (some 12), none⟩,
  ⟨.move (.const (.int .i64 3)), (some 13), none⟩]
def o13_3 : List AOper := [⟨.move (.tmp 3), (some 17), none⟩,
  ⟨.move (.tmp 4), (some 18), none⟩,
  ⟨.move (.tmp 5), (some 19), none⟩,
  ⟨.call (.func 38) [(.tmp 17), (.tmp 18), (.tmp 19)], (some 20), none⟩,
  ⟨.un .not (.tmp 20), (some 21), none⟩,
  ⟨.move (.tmp 21), (some 22), none⟩,
  ⟨.move (.tmp 1), (some 23), (some (22, false))⟩,
  ⟨.bin .lss (.tmp 23) (.const (.int .i64 0)), (some 24), (some (22, false))⟩,
  ⟨.pick (.tmp 22) (.const (.bool true)) (.tmp 24), (some 25), none⟩,
  ⟨.move (.tmp 25), (some 26), none⟩,
  ⟨.move (.tmp 1), (some 27), (some (26, false))⟩,
  ⟨.move (.tmp 0), (some 28), (some (26, false))⟩,
  ⟨.bu .len [(.tmp 28)], (some 29), (some (26, false))⟩,
  ⟨.bin .geq (.tmp 27) (.tmp 29), (some 30), (some (26, false))⟩,
  ⟨.pick (.tmp 26) (.const (.bool true)) (.tmp 30), (some 31), none⟩]
def o13_4 : List AOper := [⟨.move (.const (.float .f64 0)), (some 12), none⟩,
  ⟨.move (.const (.int .i64 2)), (some 13), none⟩]
def o13_5 : List AOper := [⟨.move (.tmp 0), (some 32), none⟩,
  ⟨.move (.tmp 1), (some 33), none⟩,
  ⟨.move (.tmp 2), (some 34), none⟩,
  ⟨.move (.tmp 3), (some 35), none⟩,
  ⟨.move (.tmp 4), (some 36), none⟩,
  ⟨.move (.tmp 5), (some 37), none⟩,
  ⟨.call (.func 39) [(.tmp 32), (.tmp 33), (.tmp 34), (.tmp 35), (.tmp 36), (.tmp 37)], (some 38), none⟩,
  ⟨.move (.tmp 38), (some 12), none⟩,
  ⟨.move (.const (.int .i64 0)), (some 13), none⟩]
def ir13 : AFn := ⟨39, [.tmp 12, .tmp 13], (.seq (.ops o13_0) (.seq (.seq (.ops o13_1) (.cond (.tmp 16) (.seq (.ops o13_2) .ret) .skip)) (.seq (.seq (.ops o13_3) (.cond (.tmp 31) (.seq (.ops o13_4) .ret) .skip)) (.seq (.ops o13_5) .ret))))⟩
theorem ir13_eq : fnsOf Try.prog 13 = some ir13 := by kernel_rfl

/-! F15 lookout/lookoutlaw14.kept -/
def o15_0 : List AOper := [⟨.move (.const (.bool false)), (some 4), none⟩]
def o15_1 : List AOper := [⟨.move (.tmp 0), (some 6), none⟩,
  ⟨.move (.tmp 1), (some 7), none⟩,
  ⟨.bu .len [(.tmp 7)], (some 8), none⟩,
  ⟨.bin .add (.tmp 8) (.const (.int .i64 2)), (some 9), none⟩,
  ⟨.slSl 1 (.tmp 6) none (some (.tmp 9)) none, (some 10), none⟩,
  ⟨.move (.tmp 10), (some 5), none⟩]
def o15_2 : List AOper := [⟨.move (.tmp 0), (some 11), none⟩,
  ⟨.move (.tmp 1), (some 12), none⟩,
  ⟨.call (.func 22) [(.tmp 11), (.tmp 12)], (some 13), none⟩,
  ⟨.move (.tmp 13), (some 14), none⟩,
  ⟨.move (.tmp 5), (some 15), (some (14, true))⟩,
  ⟨.move (.tmp 1), (some 16), (some (14, true))⟩,
  ⟨.bu .len [(.tmp 16)], (some 17), (some (14, true))⟩,
  ⟨.addrSl 1 (.tmp 15) (.tmp 17), (some 18), (some (14, true))⟩,
  ⟨.load none (.tmp 18), (some 19), (some (14, true))⟩,
  ⟨.bin .eql (.tmp 19) (.const (.float .f64 4619567317775286272)), (some 20), (some (14, true))⟩,
  ⟨.pick (.tmp 14) (.tmp 20) (.const (.bool false)), (some 21), none⟩,
  ⟨.move (.tmp 21), (some 22), none⟩,
  ⟨.move (.tmp 5), (some 23), (some (22, true))⟩,
  ⟨.move (.tmp 1), (some 24), (some (22, true))⟩,
  ⟨.bu .len [(.tmp 24)], (some 25), (some (22, true))⟩,
  ⟨.bin .add (.tmp 25) (.const (.int .i64 1)), (some 26), (some (22, true))⟩,
  ⟨.addrSl 1 (.tmp 23) (.tmp 26), (some 27), (some (22, true))⟩,
  ⟨.load none (.tmp 27), (some 28), (some (22, true))⟩,
  ⟨.bin .eql (.tmp 28) (.const (.float .f64 4620693217682128896)), (some 29), (some (22, true))⟩,
  ⟨.pick (.tmp 22) (.tmp 29) (.const (.bool false)), (some 30), none⟩,
  ⟨.move (.tmp 30), (some 4), none⟩]
def ir15 : AFn := ⟨31, [.tmp 4], (.seq (.ops o15_0) (.seq (.ops o15_1) (.seq (.ops o15_2) .ret)))⟩
theorem ir15_eq : fnsOf Try.prog 15 = some ir15 := by kernel_rfl

/-! F16 lookout/cfar.Line -/
def o16_0 : List AOper := [⟨.move (.const (.slice none 0 0)), (some 12), none⟩,
  ⟨.move (.const (.int .i64 0)), (some 13), none⟩]
def o16_1 : List AOper := [⟨.move (.tmp 0), (some 20), none⟩,
  ⟨.move (.tmp 1), (some 21), none⟩,
  ⟨.move (.tmp 2), (some 22), none⟩,
  ⟨.move (.tmp 3), (some 23), none⟩,
  ⟨.move (.tmp 4), (some 24), none⟩,
  ⟨.call (.func 36) [(.tmp 20), (.tmp 21), (.tmp 22), (.tmp 23), (.tmp 24)], (some 25), none⟩,
  ⟨.move (.tmp 25), (some 19), none⟩,
  ⟨.extract (.tmp 19) 0, (some 26), none⟩,
  ⟨.extract (.tmp 19) 1, (some 27), none⟩,
  ⟨.alloc 64 [.nilFunc, (.int .i64 0), (.int .i64 0), (.int .i64 0)], (some 14), none⟩,
  ⟨.store 4 (.tmp 14) (.tmp 26), none, none⟩,
  ⟨.move (.tmp 27), (some 15), none⟩]
def o16_2 : List AOper := [⟨.move (.tmp 15), (some 28), none⟩,
  ⟨.bin .neq (.tmp 28) (.const (.int .i64 0)), (some 29), none⟩]
def o16_3 : List AOper := [⟨.move (.tmp 15), (some 30), none⟩,
  ⟨.move (.const (.slice none 0 0)), (some 12), none⟩,
  ⟨.move (.tmp 30), (some 13), none⟩]
def o16_4 : List AOper := [⟨.move (.tmp 5), (some 31), none⟩,
  ⟨.move (.tmp 5), (some 32), none⟩,
  ⟨.bin .sub (.tmp 31) (.tmp 32), (some 33), none⟩,
  ⟨.bin .neq (.tmp 33) (.const (.float .f64 0)), (some 34), none⟩]
def o16_5 : List AOper := [⟨.move (.const (.slice none 0 0)), (some 12), none⟩,
  ⟨.move (.const (.int .i64 6)), (some 13), none⟩]
def o16_6 : List AOper := [⟨.move (.tmp 0), (some 35), none⟩,
  ⟨.bu .len [(.tmp 35)], (some 36), none⟩,
  ⟨.makeSlice 4 1 1 [(.bool false)] (.tmp 36) (.tmp 36), (some 37), none⟩,
  ⟨.move (.tmp 37), (some 16), none⟩]
def o16_7 : List AOper := [⟨.move (.tmp 0), (some 38), none⟩,
  ⟨.bu .len [(.tmp 38)], (some 39), none⟩,
  ⟨.move (.const (.int .i64 0)), (some 40), none⟩]
def o16_9 : List AOper := [⟨.bin .lss (.tmp 40) (.tmp 39), (some 41), none⟩]
def o16_10 : List AOper := [⟨.move (.tmp 40), (some 42), none⟩,
  ⟨.addrSl 1 (.tmp 38) (.tmp 40), (some 43), none⟩,
  ⟨.load none (.tmp 43), (some 44), none⟩,
  ⟨.move (.tmp 42), (some 17), none⟩,
  ⟨.move (.tmp 44), (some 18), none⟩]
def o16_11 : List AOper := [⟨.move (.tmp 16), (some 45), none⟩,
  ⟨.move (.tmp 17), (some 46), none⟩,
  ⟨.move (.tmp 18), (some 47), none⟩,
  ⟨.load (some 4) (.tmp 14), (some 48), none⟩,
  ⟨.move (.tmp 0), (some 49), none⟩,
  ⟨.move (.tmp 17), (some 50), none⟩,
  ⟨.call (.func 37) [(.tmp 48), (.tmp 49), (.tmp 50)], (some 51), none⟩,
  ⟨.move (.tmp 5), (some 52), none⟩,
  ⟨.bin .mul (.tmp 51) (.tmp 52), (some 53), none⟩,
  ⟨.bin .gtr (.tmp 47) (.tmp 53), (some 54), none⟩,
  ⟨.addrSl 1 (.tmp 45) (.tmp 46), (some 55), none⟩,
  ⟨.store 1 (.tmp 55) (.tmp 54), none, none⟩]
def o16_12 : List AOper := [⟨.bin .add (.tmp 40) (.const (.int .i64 1)), (some 56), none⟩,
  ⟨.move (.tmp 56), (some 40), none⟩]
def b16_8 : ACode := (.seq (.ops o16_9) (.seq (.cond (.tmp 41) .skip (.exit 0)) (.seq (.block 1 (.seq (.ops o16_10) (.ops o16_11))) (.ops o16_12))))
def o16_13 : List AOper := [⟨.move (.tmp 16), (some 57), none⟩,
  ⟨.move (.tmp 57), (some 12), none⟩,
  ⟨.move (.const (.int .i64 0)), (some 13), none⟩]
def ir16 : AFn := ⟨58, [.tmp 12, .tmp 13], (.seq (.ops o16_0) (.seq (.ops o16_1) (.seq (.seq (.ops o16_2) (.cond (.tmp 29) (.seq (.ops o16_3) .ret) .skip)) (.seq (.seq (.ops o16_4) (.cond (.tmp 34) (.seq (.ops o16_5) .ret) .skip)) (.seq (.ops o16_6) (.seq (.seq (.ops o16_7) (.block 0 (.loop b16_8))) (.seq (.ops o16_13) .ret)))))))⟩
theorem ir16_eq : fnsOf Try.prog 16 = some ir16 := by kernel_rfl

/-! F17 lookout/lookoutref14.Line -/
def o17_0 : List AOper := [⟨.move (.const (.slice none 0 0)), (some 12), none⟩,
  ⟨.move (.const (.int .i64 0)), (some 13), none⟩]
def o17_1 : List AOper := [⟨.move (.tmp 0), (some 18), none⟩,
  ⟨.bu .len [(.tmp 18)], (some 19), none⟩,
  ⟨.bin .gtr (.tmp 19) (.const (.int .i64 16384)), (some 20), none⟩]
def o17_2 : List AOper := [⟨.move (.const (.slice none 0 0)), (some 12), none⟩,
  ⟨.move (.const (.int .i64 3)), (some 13), none⟩]
def o17_3 : List AOper := [⟨.move (.tmp 2), (some 21), none⟩,
  ⟨.move (.tmp 3), (some 22), none⟩,
  ⟨.move (.tmp 4), (some 23), none⟩,
  ⟨.call (.func 38) [(.tmp 21), (.tmp 22), (.tmp 23)], (some 24), none⟩,
  ⟨.un .not (.tmp 24), (some 25), none⟩]
def o17_4 : List AOper := [⟨.move (.const (.slice none 0 0)), (some 12), none⟩,
  ⟨.move (.const (.int .i64 2)), (some 13), none⟩]
def o17_5 : List AOper := [⟨.move (.tmp 5), (some 26), none⟩,
  ⟨.call (.func 40) [(.tmp 26)], (some 27), none⟩,
  ⟨.un .not (.tmp 27), (some 28), none⟩]
def o17_6 : List AOper := [⟨.move (.const (.slice none 0 0)), (some 12), none⟩,
  ⟨.move (.const (.int .i64 6)), (some 13), none⟩]
def o17_7 : List AOper := [⟨.move (.const (.slice none 0 0)), (some 14), none⟩]
def o17_8 : List AOper := [⟨.move (.const (.int .i64 0)), (some 15), none⟩]
def o17_10 : List AOper := [⟨.move (.tmp 15), (some 29), none⟩,
  ⟨.move (.tmp 0), (some 30), none⟩,
  ⟨.bu .len [(.tmp 30)], (some 31), none⟩,
  ⟨.bin .lss (.tmp 29) (.tmp 31), (some 32), none⟩]
def o17_11 : List AOper := [⟨.move (.tmp 0), (some 35), none⟩,
  ⟨.move (.tmp 15), (some 36), none⟩,
  ⟨.move (.tmp 1), (some 37), none⟩,
  ⟨.move (.tmp 2), (some 38), none⟩,
  ⟨.move (.tmp 3), (some 39), none⟩,
  ⟨.move (.tmp 4), (some 40), none⟩,
  ⟨.call (.func 39) [(.tmp 35), (.tmp 36), (.tmp 37), (.tmp 38), (.tmp 39), (.tmp 40)], (some 41), none⟩,
  ⟨.move (.tmp 41), (some 16), none⟩]
def o17_12 : List AOper := [⟨.move (.tmp 16), (some 42), none⟩,
  ⟨.move (.tmp 5), (some 43), none⟩,
  ⟨.bin .mul (.tmp 42) (.tmp 43), (some 44), none⟩,
  ⟨.move (.tmp 44), (some 17), none⟩]
def o17_13 : List AOper := [⟨.move (.tmp 14), (some 45), none⟩,
  ⟨.move (.tmp 0), (some 46), none⟩,
  ⟨.move (.tmp 15), (some 47), none⟩,
  ⟨.addrSl 1 (.tmp 46) (.tmp 47), (some 48), none⟩,
  ⟨.load none (.tmp 48), (some 49), none⟩,
  ⟨.move (.tmp 17), (some 50), none⟩,
  ⟨.bin .gtr (.tmp 49) (.tmp 50), (some 51), none⟩,
  ⟨.buildSlice 4 1 [(.bool false)] 1 [(0, (.tmp 51))], (some 52), none⟩,
  ⟨.append 4 1 1 [(.bool false)] (.tmp 45) (.tmp 52), (some 53), none⟩,
  ⟨.move (.tmp 53), (some 14), none⟩]
def o17_14 : List AOper := [⟨.move (.tmp 15), (some 33), none⟩,
  ⟨.bin .add (.tmp 33) (.const (.int .i64 1)), (some 34), none⟩,
  ⟨.move (.tmp 34), (some 15), none⟩]
def b17_9 : ACode := (.seq (.seq (.ops o17_10) (.cond (.tmp 32) .skip (.exit 0))) (.seq (.block 1 (.seq (.ops o17_11) (.seq (.ops o17_12) (.ops o17_13)))) (.ops o17_14)))
def o17_15 : List AOper := [⟨.move (.tmp 14), (some 54), none⟩,
  ⟨.move (.tmp 54), (some 12), none⟩,
  ⟨.move (.const (.int .i64 0)), (some 13), none⟩]
def ir17 : AFn := ⟨55, [.tmp 12, .tmp 13], (.seq (.ops o17_0) (.seq (.seq (.ops o17_1) (.cond (.tmp 20) (.seq (.ops o17_2) .ret) .skip)) (.seq (.seq (.ops o17_3) (.cond (.tmp 25) (.seq (.ops o17_4) .ret) .skip)) (.seq (.seq (.ops o17_5) (.cond (.tmp 28) (.seq (.ops o17_6) .ret) .skip)) (.seq (.ops o17_7) (.seq (.seq (.ops o17_8) (.block 0 (.loop b17_9))) (.seq (.ops o17_15) .ret)))))))⟩
theorem ir17_eq : fnsOf Try.prog 17 = some ir17 := by kernel_rfl


end Go.Proofs.Ytfjdihfflghfpaa
