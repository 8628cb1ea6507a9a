/- The small machine's text of functions of the seat. -/
import Derived.Test.YtmfaodenkghmkaaGreatRows
import Derived.Test.YtmfaodenkghmkaaGreatIRA
import Derived.KernelRfl
namespace Go.Proofs.YtmfaodenkghmkaaGreat
open Go Go.Vam Go.Vam.W

def o22_0 : List AOper := [bx 28 0 1, mn 2]
def o22_1 : List AOper := [⟨.mkFunc (.func 45) [] [(t 1)], (s 3), none⟩, ⟨.mkFunc (.func 47) [] [(t 1)], (s 4), none⟩, ⟨.mkFunc (.func 49) [] [(t 1)], (s 5), none⟩, ⟨.buildSlice 65 1 [.nilFunc] 3 [(0, (t 3)), (1, (t 4)), (2, (t 5))], (s 6), none⟩, mv 6 2]
def ir22 : AFn := ⟨7, [.tmp 2], (.seq (.ops o22_0) (.seq (.ops o22_1) .ret))⟩
theorem ir22_eq : fnsOf Tryz.prog 22 = some ir22 := by kernel_rfl
def o45_0 : List AOper := [mn 3, mi 0 4]
def o45_1 : List AOper := [fa 5 1 8, ld 8 9, cl 8 [(t 9)] 10, mv 10 7, ex 7 0 11, ex 7 1 12, mv 11 5, mv 12 6]
def o45_2 : List AOper := [mv 0 13, mv 5 14, cl 46 [(t 13), (t 14)] 15, ex 15 0 16, ex 15 1 17, mv 16 3, mv 17 4]
def ir45 : AFn := ⟨18, [.tmp 3, .tmp 4], (.seq (.ops o45_0) (.seq (.ops o45_1) (.seq (.ops o45_2) .ret)))⟩
theorem ir45_eq : fnsOf Tryz.prog 45 = some ir45 := by kernel_rfl
def o47_0 : List AOper := [mn 3, mi 0 4]
def o47_1 : List AOper := [mv 0 5, fa 7 1 6, ld 6 7, cl 48 [(t 5), (t 7)] 8, ex 8 0 9, ex 8 1 10, mv 9 3, mv 10 4]
def ir47 : AFn := ⟨11, [.tmp 3, .tmp 4], (.seq (.ops o47_0) (.seq (.ops o47_1) .ret))⟩
theorem ir47_eq : fnsOf Tryz.prog 47 = some ir47 := by kernel_rfl
def o49_0 : List AOper := [mn 3, mi 0 4]
def o49_1 : List AOper := [mv 0 5, fa 6 1 6, ld 6 7, mv 0 8, le 8 9, cl 51 [(t 7), (t 9)] 10, cl 50 [(t 5), (t 10)] 11, ex 11 0 12, ex 11 1 13, mv 12 3, mv 13 4]
def ir49 : AFn := ⟨14, [.tmp 3, .tmp 4], (.seq (.ops o49_0) (.seq (.ops o49_1) .ret))⟩
theorem ir49_eq : fnsOf Tryz.prog 49 = some ir49 := by kernel_rfl
def o10_0 : List AOper := [bx 28 0 2, mn 4, mi 0 5]
def o10_1 : List AOper := [ln 14 2 13, cl 6 [(t 13)] 14, mv 14 6]
def o10_2 : List AOper := [mv 6 15, bi .neq 15 0 16]
def o10_3 : List AOper := [mv 6 17, mn 4, mv 17 5]
def o10_4 : List AOper := [mv 1 18, le 18 19, fa 0 2 20, fa 4 20 21, ld 21 22, bn .neq 19 22 23]
def o10_5 : List AOper := [mn 4, mi 5 5]
def o10_6 : List AOper := [mv 1 24, le 24 25, mi 0 26]
def o10_8 : List AOper := [bn .lss 26 25 27]
def o10_9 : List AOper := [ad 1 24 26 28, ld 28 29, mv 29 8]
def o10_10 : List AOper := [mv 8 30, le 30 31, fa 0 2 32, fa 3 32 33, ld 33 34, bn .neq 31 34 35]
def o10_11 : List AOper := [mn 4, mi 5 5]
def o10_12 : List AOper := [bi .add 26 1 36, mv 36 26]
def b10_7 : ACode := (.seq (.ops o10_8) (.seq (.cond (t 27) .skip (.exit 0)) (.seq (.block 1 (.seq (.ops o10_9) (.seq (.ops o10_10) (.cond (t 35) (.seq (.ops o10_11) .ret) .skip)))) (.ops o10_12))))
def o10_13 : List AOper := [ln 14 2 37, cl 22 [(t 37)] 38, le 38 39, mi 0 40]
def o10_15 : List AOper := [bn .lss 40 39 41]
def o10_16 : List AOper := [ad 1 38 40 42, ld 42 43, mv 43 10]
def o10_17 : List AOper := [mv 10 45, mv 1 46, ⟨.call (t 45) [(t 46)], (s 47), none⟩, mv 47 44, ex 44 0 48, ex 44 1 49, mv 48 11, mv 49 12]
def o10_18 : List AOper := [mv 12 50, bi .neq 50 0 51]
def o10_19 : List AOper := [mv 12 52, mn 4, mv 52 5]
def o10_20 : List AOper := [mv 11 53, mv 53 1]
def o10_21 : List AOper := [bi .add 40 1 54, mv 54 40]
def b10_14 : ACode := (.seq (.ops o10_15) (.seq (.cond (t 41) .skip (.exit 2)) (.seq (.block 3 (.seq (.ops o10_16) (.seq (.ops o10_17) (.seq (.seq (.ops o10_18) (.cond (t 51) (.seq (.ops o10_19) .ret) .skip)) (.ops o10_20))))) (.ops o10_21))))
def o10_22 : List AOper := [mv 1 55, cl 23 [(t 55)] 56, mv 56 4, mi 0 5]
def ir10 : AFn := ⟨57, [.tmp 4, .tmp 5], (.seq (.ops o10_0) (.seq (.seq (.ops o10_1) (.seq (.ops o10_2) (.cond (t 16) (.seq (.ops o10_3) .ret) .skip))) (.seq (.seq (.ops o10_4) (.cond (t 23) (.seq (.ops o10_5) .ret) .skip)) (.seq (.seq (.ops o10_6) (.block 0 (.loop b10_7))) (.seq (.seq (.ops o10_13) (.block 2 (.loop b10_14))) (.seq (.ops o10_22) .ret))))))⟩
theorem ir10_eq : fnsOf Tryz.prog 10 = some ir10 := by kernel_rfl
def o39_0 : List AOper := [bx 24 0 3, mi 0 6]
def o39_1 : List AOper := [ln 5 3 8, cl 13 [(t 8)] 9, mv 9 7]
def o39_2 : List AOper := [mv 7 10, bi .neq 10 0 11]
def o39_3 : List AOper := [mv 7 12, mv 12 6]
def o39_4 : List AOper := [mv 1 13, le 13 14, bi .eql 14 0 15]
def o39_5 : List AOper := [mi 2 6]
def o39_6 : List AOper := [mv 2 16, bi .gtr 16 256 17, mv 17 18, gmv 18 F 1 19, gle 18 F 19 20, gbi 18 F .gtr 20 16384 21, pt 18 21 22, mv 22 23, gmv 23 F 2 24, gfa 23 F 4 3 25, gld 23 F 25 26, gbn 23 F .mul 24 26 27, gmv 23 F 1 28, gle 23 F 28 29, gbn 23 F .mul 27 29 30, gbi 23 F .gtr 30 16777216 31, pt 23 31 32]
def o39_7 : List AOper := [mi 3 6]
def o39_8 : List AOper := [mi 0 6]
def ir39 : AFn := ⟨33, [.tmp 6], (.seq (.ops o39_0) (.seq (.seq (.ops o39_1) (.seq (.ops o39_2) (.cond (t 11) (.seq (.ops o39_3) .ret) .skip))) (.seq (.seq (.ops o39_4) (.cond (t 15) (.seq (.ops o39_5) .ret) .skip)) (.seq (.seq (.ops o39_6) (.cond (t 32) (.seq (.ops o39_7) .ret) .skip)) (.seq (.ops o39_8) .ret)))))⟩
theorem ir39_eq : fnsOf Tryz.prog 39 = some ir39 := by kernel_rfl
def o40_0 : List AOper := [mb false 2]
def o40_1 : List AOper := [mv 0 5, le 5 6, mi 0 7]
def o40_3 : List AOper := [bn .lss 7 6 8]
def o40_4 : List AOper := [ad 1 5 7 9, ld 9 10, mv 10 4]
def o40_5 : List AOper := [mv 4 11, cl 28 [(t 11)] 12, mv 12 13, gmv 13 F 4 14, gcl 13 F 29 [(t 14), (.const i0)] 15, pt 13 15 16]
def o40_6 : List AOper := [mb false 2]
def o40_7 : List AOper := [bi .add 7 1 17, mv 17 7]
def b40_2 : ACode := (.seq (.ops o40_3) (.seq (.cond (t 8) .skip (.exit 0)) (.seq (.block 1 (.seq (.ops o40_4) (.seq (.ops o40_5) (.cond (t 16) (.seq (.ops o40_6) .ret) .skip)))) (.ops o40_7))))
def o40_8 : List AOper := [mb true 2]
def ir40 : AFn := ⟨18, [.tmp 2], (.seq (.ops o40_0) (.seq (.seq (.ops o40_1) (.block 0 (.loop b40_2))) (.seq (.ops o40_8) .ret)))⟩
theorem ir40_eq : fnsOf Tryz.prog 40 = some ir40 := by kernel_rfl
def o41_0 : List AOper := [bx 24 0 1, mn 2, mn 3]
def d41_1 : List DOper := [⟨fa 4 1 7, 0⟩, ⟨ld 7 8, 1⟩, ⟨fa 3 1 9, 0⟩, ⟨ld 9 10, 4⟩, ⟨bn .mul 8 10 11, 15⟩, ⟨⟨.makeSlice 59 16 1 [(.complex .f64 0 0)] (t 11) (t 11), (s 12), none⟩, 31⟩, ⟨fa 4 1 13, 0⟩, ⟨ld 13 14, 64⟩, ⟨⟨.makeSlice 34 24 1 [n0] (t 14) (t 14), (s 15), none⟩, 192⟩, ⟨mv 12 4, 63⟩, ⟨mv 15 5, 1023⟩]
def o41_2 : List AOper := [mv 5 16, le 16 17, mi 0 18]
def o41_4 : List AOper := [bn .lss 18 17 19]
def o41_5 : List AOper := [mv 18 20, mv 20 6]
def o41_6 : List AOper := [mv 5 21, mv 6 22, mv 4 23, mv 6 24, fa 3 1 25, ld 25 26, bn .mul 24 26 27, mv 6 28, bi .add 28 1 29, fa 3 1 30, ld 30 31, bn .mul 29 31 32, mv 6 33, bi .add 33 1 34, fa 3 1 35, ld 35 36, bn .mul 34 36 37, ⟨.slSl 1 (t 23) (some (t 27)) (some (t 32)) (some (t 37)), (s 38), none⟩, ad 1 21 22 39, st 1 39 38]
def o41_7 : List AOper := [bi .add 18 1 40, mv 40 18]
def b41_3 : ACode := (.seq (.ops o41_4) (.seq (.cond (t 19) .skip (.exit 0)) (.seq (.block 1 (.seq (.ops o41_5) (.ops o41_6))) (.ops o41_7))))
def o41_8 : List AOper := [mv 5 41, mv 4 42, mv 41 2, mv 42 3]
def ir41 : AFn := ⟨43, [.tmp 2, .tmp 3], (.seq (.ops o41_0) (.seq (.draw d41_1) (.seq (.seq (.ops o41_2) (.block 0 (.loop b41_3))) (.seq (.ops o41_8) .ret))))⟩
theorem ir41_eq : fnsOf Tryz.prog 41 = some ir41 := by kernel_rfl
def o42_0 : List AOper := [bx 24 0 4, bx 34 1 5, bx 22 2 6, bx 34 3 7, ⟨.move (.const .nilFunc), (s 8), none⟩]
def o42_1 : List AOper := [⟨.mkFunc (.func 67) [] [(t 4), (t 6), (t 5), (t 7)], (s 9), none⟩, mv 9 8]
def ir42 : AFn := ⟨10, [.tmp 8], (.seq (.ops o42_0) (.seq (.ops o42_1) .ret))⟩
theorem ir42_eq : fnsOf Tryz.prog 42 = some ir42 := by kernel_rfl
def o67_0 : List AOper := [bx 41 0 5]
def o67_1 : List AOper := [fa 4 1 13, ld 13 14, mi 0 15]
def o67_3 : List AOper := [bn .lss 15 14 16]
def o67_4 : List AOper := [mv 15 17, mv 17 6]
def o67_5 : List AOper := [mv 6 18, fa 3 1 19, ld 19 20, bn .mul 18 20 21, mv 21 7]
def o67_6 : List AOper := [ln 5 5 22, ld 2 23, mv 7 24, ⟨.conv (.toFloat .f64) (t 24), (s 25), none⟩, fa 2 1 26, ld 26 27, bn .quo 25 27 28, bn .add 23 28 29, cl 68 [(t 22), (t 29)] 30, mv 30 8]
def o67_7 : List AOper := [mv 8 31, fa 0 1 32, ld 32 33, bn .quo 31 33 34, cl 69 [(t 34)] 35, mv 35 9]
def o67_8 : List AOper := [mv 8 36, ⟨.buildSlice 22 1 [f0] 1 [(0, (t 36))], (s 37), none⟩, cl 40 [(t 37)] 38, nt 38 39, mv 39 40, gmv 40 F 9 41, ⟨.bin .geq (t 41) (.const f0), (s 42), (some (40, false))⟩, gmv 40 F 42 43, gmv 43 T 9 44, ⟨.bin .leq (t 44) (.const (.float .f64 4742290407621132288)), (s 45), (some (43, true))⟩, ⟨.pick (t 43) (t 45) (.const (.bool false)), (s 46), (some (40, false))⟩, gnt 40 F 46 47, pt 40 47 48]
def d67_9 : List DOper := [⟨fa 3 5 49, 0⟩, ⟨ld 49 50, 1⟩, ⟨mv 8 51, 0⟩, ⟨⟨.bin .mul (.const (.float .f64 4611686018427387904)) (t 51), (s 52), none⟩, 4⟩, ⟨fa 1 1 53, 0⟩, ⟨ld 53 54, 16⟩, ⟨bn .quo 52 54 55, 60⟩, ⟨bn .sub 50 55 56, 127⟩, ⟨cl 38 [(t 56)] 57, 255⟩, ⟨fa 2 5 58, 0⟩, ⟨ld 58 59, 512⟩, ⟨cl 70 [(t 57), (t 59)] 60, 2047⟩, ⟨mv 60 10, 4095⟩]
def o67_10 : List AOper := [mv 7 61, mv 9 62, ⟨.conv (.toInt .i64) (t 62), (s 63), none⟩, bn .add 61 63 64, mv 64 11]
def o67_11 : List AOper := [ld 3 65, le 65 66, ld 4 67, le 67 68, mv 11 69, bn .sub 68 69 70, ⟨.bu .max [(.const i0), (t 70)], (s 71), none⟩, ⟨.bu .min [(t 66), (t 71)], (s 72), none⟩, mi 0 73]
def o67_13 : List AOper := [bn .lss 73 72 74]
def o67_14 : List AOper := [mv 73 75, mv 75 12]
def d67_15 : List DOper := [⟨ld 4 76, 0⟩, ⟨mv 11 77, 0⟩, ⟨mv 12 78, 0⟩, ⟨bn .add 77 78 79, 6⟩, ⟨ad 1 76 79 80, 15⟩, ⟨ld 80 81, 31⟩, ⟨mv 10 82, 0⟩, ⟨ld 3 83, 0⟩, ⟨mv 12 84, 0⟩, ⟨ad 1 83 84 85, 384⟩, ⟨ld 85 86, 896⟩, ⟨cl 71 [(t 82), (t 86)] 87, 1984⟩, ⟨bn .add 81 87 88, 4095⟩, ⟨ad 1 76 79 89, 8191⟩, ⟨st 1 89 88, 16383⟩]
def o67_16 : List AOper := [bi .add 73 1 90, mv 90 73]
def b67_12 : ACode := (.seq (.ops o67_13) (.seq (.cond (t 74) .skip (.exit 2)) (.seq (.block 3 (.seq (.ops o67_14) (.draw d67_15))) (.ops o67_16))))
def o67_17 : List AOper := [bi .add 15 1 91, mv 91 15]
def b67_2 : ACode := (.seq (.ops o67_3) (.seq (.cond (t 16) .skip (.exit 0)) (.seq (.block 1 (.seq (.ops o67_4) (.seq (.ops o67_5) (.seq (.ops o67_6) (.seq (.ops o67_7) (.seq (.seq (.ops o67_8) (.cond (t 48) (.exit 1) .skip)) (.seq (.draw d67_9) (.seq (.ops o67_10) (.seq (.ops o67_11) (.block 2 (.loop b67_12))))))))))) (.ops o67_17))))
def ir67 : AFn := ⟨92, [], (.seq (.ops o67_0) (.seq (.ops o67_1) (.block 0 (.loop b67_2))))⟩
theorem ir67_eq : fnsOf Tryz.prog 67 = some ir67 := by kernel_rfl
def o68_0 : List AOper := [bx 41 0 2, ⟨.move (.const f0), (s 4), none⟩]
def o68_1 : List AOper := [fa 0 2 5, ld 5 6, fa 1 2 7, ld 7 8, mv 1 9, bn .mul 8 9 10, bn .add 6 10 11, mv 11 4]
def ir68 : AFn := ⟨12, [.tmp 4], (.seq (.ops o68_0) (.seq (.ops o68_1) .ret))⟩
theorem ir68_eq : fnsOf Tryz.prog 68 = some ir68 := by kernel_rfl
def o21_0 : List AOper := [bx 24 0 6, mn 12, mi 0 13]
def o21_1 : List AOper := [ln 5 6 25, mv 1 26, mv 2 27, le 27 28, cl 39 [(t 25), (t 26), (t 28)] 29, mv 29 14]
def o21_2 : List AOper := [mv 14 30, bi .neq 30 0 31]
def o21_3 : List AOper := [mv 14 32, mn 12, mv 32 13]
def o21_4 : List AOper := [mv 3 33, mv 4 34, ⟨.buildSlice 22 1 [f0] 2 [(0, (t 33)), (1, (t 34))], (s 35), none⟩, cl 40 [(t 35)] 36, mv 36 37, gmv 37 T 4 38, ⟨.bin .geq (t 38) (.const f0), (s 39), (some (37, true))⟩, pf 37 39 40, mv 40 15]
def o21_5 : List AOper := [mv 2 41, le 41 42, mi 0 43]
def o21_7 : List AOper := [bn .lss 43 42 44]
def o21_8 : List AOper := [ad 5 41 43 45, ln 5 45 46, ⟨.alloc 41 [f0, f0, f0, f0, f0], (s 17), none⟩, st 5 17 46]
def o21_9 : List AOper := [mv 15 47, mv 47 48, gfa 48 T 0 17 49, gld 48 T 49 50, gfa 48 T 1 17 51, gld 48 T 51 52, gfa 48 T 2 17 53, gld 48 T 53 54, gfa 48 T 3 17 55, gld 48 T 55 56, ⟨.buildSlice 22 1 [f0] 4 [(0, (t 50)), (1, (t 52)), (2, (t 54)), (3, (t 56))], (s 57), (some (48, true))⟩, gcl 48 T 40 [(t 57)] 58, pf 48 58 59, mv 59 15]
def o21_10 : List AOper := [bi .add 43 1 60, mv 60 43]
def b21_6 : ACode := (.seq (.ops o21_7) (.seq (.cond (t 44) .skip (.exit 0)) (.seq (.block 1 (.seq (.ops o21_8) (.ops o21_9))) (.ops o21_10))))
def o21_11 : List AOper := [mv 15 61, nt 61 62]
def o21_12 : List AOper := [mn 12, mi 6 13]
def o21_13 : List AOper := [ln 5 6 64, cl 41 [(t 64)] 65, mv 65 63, ex 63 0 66, ex 63 1 67, mv 66 18, mv 67 19]
def o21_14 : List AOper := [ln 5 6 68, mv 1 69, mv 3 70, mv 19 71, cl 42 [(t 68), (t 69), (t 70), (t 71)] 72, mv 72 20]
def o21_15 : List AOper := [mv 2 73, le 73 74, mi 0 75]
def o21_17 : List AOper := [bn .lss 75 74 76]
def o21_18 : List AOper := [ad 5 73 75 77, ln 5 77 78, ⟨.alloc 41 [f0, f0, f0, f0, f0], (s 22), none⟩, st 5 22 78]
def o21_19 : List AOper := [mv 20 79, ln 5 22 80, ⟨.call (t 79) [(t 80)], (s 81), none⟩]
def o21_20 : List AOper := [bi .add 75 1 82, mv 82 75]
def b21_16 : ACode := (.seq (.ops o21_17) (.seq (.cond (t 76) .skip (.exit 2)) (.seq (.block 3 (.seq (.ops o21_18) (.ops o21_19))) (.ops o21_20))))
def o21_21 : List AOper := [mv 4 83, bf .gtr 83 0 84]
def o21_22 : List AOper := [mv 5 85, cl 43 [(t 85)] 86, mv 86 23]
def o21_23 : List AOper := [mv 19 87, le 87 88, mi 0 89]
def o21_25 : List AOper := [bn .lss 89 88 90]
def o21_26 : List AOper := [mv 89 91, mv 91 24]
def d21_27 : List DOper := [⟨mv 19 92, 0⟩, ⟨mv 24 93, 0⟩, ⟨ad 1 92 93 94, 3⟩, ⟨ld 94 95, 7⟩, ⟨mv 23 96, 0⟩, ⟨mv 4 97, 0⟩, ⟨cl 44 [(t 96), (t 97)] 98, 48⟩, ⟨bn .add 95 98 99, 127⟩, ⟨ad 1 92 93 100, 255⟩, ⟨st 1 100 99, 511⟩]
def o21_28 : List AOper := [bi .add 89 1 101, mv 101 89]
def b21_24 : ACode := (.seq (.ops o21_25) (.seq (.cond (t 90) .skip (.exit 4)) (.seq (.block 5 (.seq (.ops o21_26) (.draw d21_27))) (.ops o21_28))))
def o21_29 : List AOper := [mv 18 102, mv 102 12, mi 0 13]
def ir21 : AFn := ⟨103, [.tmp 12, .tmp 13], (.seq (.ops o21_0) (.seq (.seq (.ops o21_1) (.seq (.ops o21_2) (.cond (t 31) (.seq (.ops o21_3) .ret) .skip))) (.seq (.ops o21_4) (.seq (.seq (.ops o21_5) (.block 0 (.loop b21_6))) (.seq (.seq (.ops o21_11) (.cond (t 62) (.seq (.ops o21_12) .ret) .skip)) (.seq (.ops o21_13) (.seq (.ops o21_14) (.seq (.seq (.ops o21_15) (.block 2 (.loop b21_16))) (.seq (.seq (.ops o21_21) (.cond (t 84) (.seq (.ops o21_22) (.seq (.ops o21_23) (.block 4 (.loop b21_24)))) .skip)) (.seq (.ops o21_29) .ret))))))))))⟩
theorem ir21_eq : fnsOf Tryz.prog 21 = some ir21 := by kernel_rfl
def o13_0 : List AOper := [bx 24 0 1, mi 0 2]
def o13_1 : List AOper := [fa 0 1 5, ld 5 6, fa 1 1 7, ld 7 8, fa 2 1 9, ld 9 10, ⟨.build [f0, f0, f0] [(0, 1, (t 6)), (1, 1, (t 8)), (2, 1, (t 10))], (s 11), none⟩, mi 0 12]
def o13_3 : List AOper := [bi .lss 12 3 13]
def o13_4 : List AOper := [⟨.idxArr 3 1 false (t 11) (t 12), (s 14), none⟩, mv 14 4]
def o13_5 : List AOper := [mv 4 15, bf .gtr 15 0 16, nt 16 17, mv 17 18, gmv 18 F 4 19, gcl 18 F 27 [(t 19)] 20, gnt 18 F 20 21, pt 18 21 22]
def o13_6 : List AOper := [mi 80 2]
def o13_7 : List AOper := [bi .add 12 1 23, mv 23 12]
def b13_2 : ACode := (.seq (.ops o13_3) (.seq (.cond (t 13) .skip (.exit 0)) (.seq (.block 1 (.seq (.ops o13_4) (.seq (.ops o13_5) (.cond (t 22) (.seq (.ops o13_6) .ret) .skip)))) (.ops o13_7))))
def o13_8 : List AOper := [fa 3 1 25, ld 25 26, bi .lss 26 1 27, mv 27 24]
def o13_9 : List AOper := [fa 3 1 28, ld 28 29, bi .gtr 29 16384 30, mv 30 24]
def o13_10 : List AOper := [fa 4 1 31, ld 31 32, bi .lss 32 1 33, mv 33 24]
def o13_11 : List AOper := [fa 4 1 34, ld 34 35, bi .gtr 35 256 36, mv 36 24]
def o13_12 : List AOper := [mi 80 2]
def o13_13 : List AOper := [fa 3 1 38, ld 38 39, fa 4 1 40, ld 40 41, bn .mul 39 41 42, bi .gtr 42 262144 43, mv 43 37]
def o13_14 : List AOper := [mi 3 2]
def o13_15 : List AOper := [mi 0 2]
def ir13 : AFn := ⟨44, [.tmp 2], (.seq (.ops o13_0) (.seq (.seq (.ops o13_1) (.block 0 (.loop b13_2))) (.seq (.block 2 (.seq (.seq (.ops o13_8) (.cond (t 24) .skip (.seq (.ops o13_9) (.cond (t 24) .skip (.seq (.ops o13_10) (.cond (t 24) .skip (.ops o13_11))))))) (.cond (t 24) (.seq (.ops o13_12) .ret) (.seq (.ops o13_13) (.cond (t 37) (.seq (.ops o13_14) .ret) .skip))))) (.seq (.ops o13_15) .ret))))⟩
theorem ir13_eq : fnsOf Tryz.prog 13 = some ir13 := by kernel_rfl
def o14_0 : List AOper := [mb false 6]
def o14_1 : List AOper := [mv 0 7, mv 1 8, bn .geq 7 8 9, mv 9 10, gmv 10 T 0 11, gmv 10 T 2 12, gbn 10 T .leq 11 12 13, pf 10 13 14, mv 14 6]
def ir14 : AFn := ⟨15, [.tmp 6], (.seq (.ops o14_0) (.seq (.ops o14_1) .ret))⟩
theorem ir14_eq : fnsOf Tryz.prog 14 = some ir14 := by kernel_rfl
def o15_0 : List AOper := [mb false 2]
def o15_1 : List AOper := [mv 0 3, cl 28 [(t 3)] 4, nt 4 5, mv 5 6, gmv 6 T 0 7, gcl 6 T 29 [(t 7), (.const i0)] 8, gnt 6 T 8 9, pf 6 9 10, mv 10 2]
def ir15 : AFn := ⟨11, [.tmp 2], (.seq (.ops o15_0) (.seq (.ops o15_1) .ret))⟩
theorem ir15_eq : fnsOf Tryz.prog 15 = some ir15 := by kernel_rfl
def o27_0 : List AOper := [mb false 2]
def o27_1 : List AOper := [mv 0 3, mv 0 4, bn .sub 3 4 5, bf .eql 5 0 6, mv 6 2]
def ir27 : AFn := ⟨7, [.tmp 2], (.seq (.ops o27_0) (.seq (.ops o27_1) .ret))⟩
theorem ir27_eq : fnsOf Tryz.prog 27 = some ir27 := by kernel_rfl
end Go.Proofs.YtmfaodenkghmkaaGreat
