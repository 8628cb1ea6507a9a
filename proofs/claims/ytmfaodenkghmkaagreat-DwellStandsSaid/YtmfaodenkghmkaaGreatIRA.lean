/- Short words for the small machine's texts. -/
import Derived.Test.YtmfaodenkghmkaaGreatVam25
import Derived.Test.YtmfaodenkghmkaaGreatRows
import Derived.KernelRfl
namespace Go.Vam.W
open Go Go.Vam
abbrev t (a : Nat) : Operand := .tmp a
abbrev s (a : Nat) : Option Nat := some a
abbrev T : Bool := true
abbrev F : Bool := false
abbrev f0 : Value := .float .f64 0
abbrev i0 : Value := .int .i64 0
abbrev n0 : Value := .slice none 0 0
abbrev mv (a b : Nat) : AOper := ⟨.move (.tmp a), some b, none⟩
abbrev mi (n : Int) (b : Nat) : AOper := ⟨.move (.const (.int .i64 n)), some b, none⟩
abbrev mb (x : Bool) (b : Nat) : AOper := ⟨.move (.const (.bool x)), some b, none⟩
abbrev mn (b : Nat) : AOper := ⟨.move (.const (.slice none 0 0)), some b, none⟩
abbrev ad (z a i b : Nat) : AOper := ⟨.addrSl z (.tmp a) (.tmp i), some b, none⟩
abbrev ld (a b : Nat) : AOper := ⟨.load none (.tmp a), some b, none⟩
abbrev ln (n a b : Nat) : AOper := ⟨.load (some n) (.tmp a), some b, none⟩
abbrev bn (o : BinOp) (a c b : Nat) : AOper := ⟨.bin o (.tmp a) (.tmp c), some b, none⟩
abbrev bi (o : BinOp) (a : Nat) (n : Int) (b : Nat) : AOper := ⟨.bin o (.tmp a) (.const (.int .i64 n)), some b, none⟩
abbrev bf (o : BinOp) (a n b : Nat) : AOper := ⟨.bin o (.tmp a) (.const (.float .f64 n)), some b, none⟩
abbrev le (a b : Nat) : AOper := ⟨.bu .len [.tmp a], some b, none⟩
abbrev fa (o a b : Nat) : AOper := ⟨.fieldAddr o (.tmp a), some b, none⟩
abbrev pf (c a b : Nat) : AOper := ⟨.pick (.tmp c) (.tmp a) (.const (.bool false)), some b, none⟩
abbrev pt (c a b : Nat) : AOper := ⟨.pick (.tmp c) (.const (.bool true)) (.tmp a), some b, none⟩
abbrev nt (a b : Nat) : AOper := ⟨.un .not (.tmp a), some b, none⟩
abbrev ex (a i b : Nat) : AOper := ⟨.extract (.tmp a) i, some b, none⟩
abbrev st (n a b : Nat) : AOper := ⟨.store n (.tmp a) (.tmp b), none, none⟩
abbrev bx (n a b : Nat) : AOper := ⟨.box n (.tmp a), some b, none⟩
abbrev cl (f : FuncId) (xs : List Operand) (b : Nat) : AOper := ⟨.call (.func f) xs, some b, none⟩
abbrev gmv (k : Nat) (x : Bool) (a b : Nat) : AOper := ⟨.move (.tmp a), some b, some (k, x)⟩
abbrev gad (k : Nat) (x : Bool) (z a i b : Nat) : AOper := ⟨.addrSl z (.tmp a) (.tmp i), some b, some (k, x)⟩
abbrev gld (k : Nat) (x : Bool) (a b : Nat) : AOper := ⟨.load none (.tmp a), some b, some (k, x)⟩
abbrev gln (k : Nat) (x : Bool) (n a b : Nat) : AOper := ⟨.load (some n) (.tmp a), some b, some (k, x)⟩
abbrev gbn (k : Nat) (x : Bool) (o : BinOp) (a c b : Nat) : AOper := ⟨.bin o (.tmp a) (.tmp c), some b, some (k, x)⟩
abbrev gbi (k : Nat) (x : Bool) (o : BinOp) (a : Nat) (n : Int) (b : Nat) : AOper := ⟨.bin o (.tmp a) (.const (.int .i64 n)), some b, some (k, x)⟩
abbrev gfa (k : Nat) (x : Bool) (o a b : Nat) : AOper := ⟨.fieldAddr o (.tmp a), some b, some (k, x)⟩
abbrev gle (k : Nat) (x : Bool) (a b : Nat) : AOper := ⟨.bu .len [.tmp a], some b, some (k, x)⟩
abbrev gnt (k : Nat) (x : Bool) (a b : Nat) : AOper := ⟨.un .not (.tmp a), some b, some (k, x)⟩
abbrev gcl (k : Nat) (x : Bool) (f : FuncId) (xs : List Operand) (b : Nat) : AOper := ⟨.call (.func f) xs, some b, some (k, x)⟩
end Go.Vam.W

/- The small machine's text of functions of the seat. -/
namespace Go.Proofs.YtmfaodenkghmkaaGreat
open Go Go.Vam Go.Vam.W

def o36_0 : List AOper := [⟨.move (.const (.complex .f64 0 0)), (s 4), none⟩]
def o36_1 : List AOper := [mv 1 5, bi .lss 5 1 6]
def o36_2 : List AOper := [⟨.move (.const (.complex .f64 0 0)), (s 4), none⟩]
def o36_3 : List AOper := [mv 0 7, mv 1 8, bn .rem 7 8 9, mv 9 0]
def o36_4 : List AOper := [mv 0 10, bi .lss 10 0 11]
def o36_5 : List AOper := [mv 0 12, mv 1 13, bn .add 12 13 14, mv 14 0]
def o36_6 : List AOper := [mv 0 15, mv 1 16, mv 0 17, bn .sub 16 17 18, bn .gtr 15 18 19]
def o36_7 : List AOper := [mv 0 20, mv 1 21, bn .sub 20 21 22, mv 22 0]
def o36_8 : List AOper := [mv 0 23, ⟨.conv (.toFloat .f64) (t 23), (s 24), none⟩, mv 1 25, ⟨.conv (.toFloat .f64) (t 25), (s 26), none⟩, bn .quo 24 26 27, cl 38 [(t 27)] 28, mv 28 4]
def ir36 : AFn := ⟨29, [.tmp 4], (.seq (.ops o36_0) (.seq (.seq (.ops o36_1) (.cond (t 6) (.seq (.ops o36_2) .ret) .skip)) (.seq (.ops o36_3) (.seq (.seq (.ops o36_4) (.cond (t 11) (.ops o36_5) .skip)) (.seq (.seq (.ops o36_6) (.cond (t 19) (.ops o36_7) .skip)) (.seq (.ops o36_8) .ret))))))⟩
theorem ir36_eq : fnsOf Tryz.prog 36 = some ir36 := by kernel_rfl
def o38_0 : List AOper := [⟨.move (.const (.complex .f64 0 0)), (s 2), none⟩]
def o38_1 : List AOper := [mv 0 8, cl 65 [(t 8)] 9, mv 9 3]
def o38_2 : List AOper := [mv 3 10, mv 3 11, bn .neq 10 11 12]
def o38_3 : List AOper := [mv 3 13, mv 3 14, ⟨.bu .complex [(t 13), (t 14)], (s 15), none⟩, mv 15 2]
def o38_4 : List AOper := [mv 3 16, ⟨.ext 5 11 [(t 16)], (s 17), none⟩, mv 17 4]
def o38_5 : List AOper := [mv 4 18, bf .gtr 18 4598175219545276416 19, mv 19 5]
def o38_6 : List AOper := [mv 5 20]
def o38_7 : List AOper := [mv 4 21, ⟨.bin .sub (.const (.float .f64 4602678819172646912)) (t 21), (s 22), none⟩, mv 22 4]
def o38_8 : List AOper := [mv 4 23, bf .gtr 23 4593671619917905920 24, mv 24 6]
def o38_9 : List AOper := [mv 6 25]
def o38_10 : List AOper := [mv 4 26, ⟨.bin .sub (.const (.float .f64 4598175219545276416)) (t 26), (s 27), none⟩, mv 27 4]
def o38_11 : List AOper := [mv 4 28, cl 66 [(t 28)] 29, mv 29 7]
def o38_12 : List AOper := [mv 6 30]
def o38_13 : List AOper := [mv 7 31, ⟨.bu .imag [(t 31)], (s 32), none⟩, mv 7 33, ⟨.bu .real [(t 33)], (s 34), none⟩, ⟨.bu .complex [(t 32), (t 34)], (s 35), none⟩, mv 35 7]
def o38_14 : List AOper := [mv 5 36]
def o38_15 : List AOper := [mv 7 37, ⟨.bu .real [(t 37)], (s 38), none⟩, ⟨.un .neg (t 38), (s 39), none⟩, mv 7 40, ⟨.bu .imag [(t 40)], (s 41), none⟩, ⟨.bu .complex [(t 39), (t 41)], (s 42), none⟩, mv 42 7]
def o38_16 : List AOper := [mv 3 43, bf .lss 43 0 44]
def o38_17 : List AOper := [mv 7 45, ⟨.bu .real [(t 45)], (s 46), none⟩, mv 7 47, ⟨.bu .imag [(t 47)], (s 48), none⟩, ⟨.un .neg (t 48), (s 49), none⟩, ⟨.bu .complex [(t 46), (t 49)], (s 50), none⟩, mv 50 7]
def o38_18 : List AOper := [mv 7 51, ⟨.bu .real [(t 51)], (s 52), none⟩, bf .add 52 0 53, mv 7 54, ⟨.bu .imag [(t 54)], (s 55), none⟩, bf .add 55 0 56, ⟨.bu .complex [(t 53), (t 56)], (s 57), none⟩, mv 57 2]
def ir38 : AFn := ⟨58, [.tmp 2], (.seq (.ops o38_0) (.seq (.ops o38_1) (.seq (.seq (.ops o38_2) (.cond (t 12) (.seq (.ops o38_3) .ret) .skip)) (.seq (.ops o38_4) (.seq (.ops o38_5) (.seq (.seq (.ops o38_6) (.cond (t 20) (.ops o38_7) .skip)) (.seq (.ops o38_8) (.seq (.seq (.ops o38_9) (.cond (t 25) (.ops o38_10) .skip)) (.seq (.ops o38_11) (.seq (.seq (.ops o38_12) (.cond (t 30) (.ops o38_13) .skip)) (.seq (.seq (.ops o38_14) (.cond (t 36) (.ops o38_15) .skip)) (.seq (.seq (.ops o38_16) (.cond (t 44) (.ops o38_17) .skip)) (.seq (.ops o38_18) .ret)))))))))))))⟩
theorem ir38_eq : fnsOf Tryz.prog 38 = some ir38 := by kernel_rfl
def o65_0 : List AOper := [⟨.move (.const f0), (s 2), none⟩]
def o65_1 : List AOper := [mv 0 5, mv 0 6, bn .sub 5 6 7, bf .neq 7 0 8]
def o65_2 : List AOper := [cl 95 [] 9, mv 9 2]
def o65_3 : List AOper := [mv 0 11, cl 96 [(t 11)] 12, mv 12 10, ex 10 0 13, ex 10 1 14, mv 13 3, mv 14 4]
def o65_4 : List AOper := [mv 4 16, bf .geq 16 4602678819172646912 17, mv 17 15]
def o65_5 : List AOper := [mv 4 18, bf .sub 18 4607182418800017408 19, mv 19 4]
def o65_6 : List AOper := [mv 4 21, bf .lss 21 13826050856027422720 22, mv 22 20]
def o65_7 : List AOper := [mv 4 23, bf .add 23 4607182418800017408 24, mv 24 4]
def o65_8 : List AOper := [mv 4 25, bf .add 25 0 26, mv 26 2]
def ir65 : AFn := ⟨27, [.tmp 2], (.seq (.ops o65_0) (.seq (.seq (.ops o65_1) (.cond (t 8) (.seq (.ops o65_2) .ret) .skip)) (.seq (.ops o65_3) (.seq (.block 0 (.seq (.ops o65_4) (.cond (t 15) (.ops o65_5) (.seq (.ops o65_6) (.cond (t 20) (.ops o65_7) .skip))))) (.seq (.ops o65_8) .ret)))))⟩
theorem ir65_eq : fnsOf Tryz.prog 65 = some ir65 := by kernel_rfl
def o66_0 : List AOper := [⟨.move (.const (.complex .f64 0 0)), (s 2), none⟩]
def o66_1 : List AOper := [mv 0 7, bf .eql 7 4593671619917905920 8]
def o66_2 : List AOper := [cl 12 [(.const (.float .f64 4602678819172646912))] 9, cl 12 [(.const (.float .f64 4602678819172646912))] 10, ⟨.bu .complex [(t 9), (t 10)], (s 11), none⟩, mv 11 2]
def o66_3 : List AOper := [mv 0 12, bf .mul 12 4618760256179416344 13, mv 13 3]
def o66_4 : List AOper := [mv 3 14, mv 3 15, bn .mul 14 15 16, mv 16 4]
def o66_5 : List AOper := [cl 97 [(.const (.int .i64 1))] 17, cl 97 [(.const i0)] 18, ⟨.alloc 158 [f0, f0, f0, f0, f0, f0, f0, f0, f0, f0, f0, f0, f0, f0, f0, f0, f0, f0, f0, f0, f0, f0, f0, f0], (s 5), none⟩, ⟨.alloc 158 [f0, f0, f0, f0, f0, f0, f0, f0, f0, f0, f0, f0, f0, f0, f0, f0, f0, f0, f0, f0, f0, f0, f0, f0], (s 6), none⟩, st 24 5 17, st 24 6 18]
def o66_6 : List AOper := [mv 4 19, cl 98 [(t 6), (t 19), (.const (.int .i64 9))] 20, mv 4 21, cl 98 [(t 5), (t 21), (.const (.int .i64 9))] 22, mv 3 23, bn .mul 22 23 24, ⟨.bu .complex [(t 20), (t 24)], (s 25), none⟩, mv 25 2]
def ir66 : AFn := ⟨26, [.tmp 2], (.seq (.ops o66_0) (.seq (.seq (.ops o66_1) (.cond (t 8) (.seq (.ops o66_2) .ret) .skip)) (.seq (.ops o66_3) (.seq (.ops o66_4) (.seq (.ops o66_5) (.seq (.ops o66_6) .ret))))))⟩
theorem ir66_eq : fnsOf Tryz.prog 66 = some ir66 := by kernel_rfl
def o70_0 : List AOper := [⟨.move (.const (.complex .f64 0 0)), (s 4), none⟩]
def o70_1 : List AOper := [mv 0 5, ⟨.bu .real [(t 5)], (s 6), none⟩, mv 1 7, bn .mul 6 7 8, mv 0 9, ⟨.bu .imag [(t 9)], (s 10), none⟩, mv 1 11, bn .mul 10 11 12, ⟨.bu .complex [(t 8), (t 12)], (s 13), none⟩, mv 13 4]
def ir70 : AFn := ⟨14, [.tmp 4], (.seq (.ops o70_0) (.seq (.ops o70_1) .ret))⟩
theorem ir70_eq : fnsOf Tryz.prog 70 = some ir70 := by kernel_rfl
def o71_0 : List AOper := [⟨.move (.const (.complex .f64 0 0)), (s 4), none⟩]
def o71_1 : List AOper := [mv 0 7, ⟨.bu .real [(t 7)], (s 8), none⟩, mv 1 9, ⟨.bu .real [(t 9)], (s 10), none⟩, bn .mul 8 10 11, mv 0 12, ⟨.bu .imag [(t 12)], (s 13), none⟩, mv 1 14, ⟨.bu .imag [(t 14)], (s 15), none⟩, bn .mul 13 15 16, bn .sub 11 16 17, mv 17 5]
def o71_2 : List AOper := [mv 0 18, ⟨.bu .real [(t 18)], (s 19), none⟩, mv 1 20, ⟨.bu .imag [(t 20)], (s 21), none⟩, bn .mul 19 21 22, mv 0 23, ⟨.bu .imag [(t 23)], (s 24), none⟩, mv 1 25, ⟨.bu .real [(t 25)], (s 26), none⟩, bn .mul 24 26 27, bn .add 22 27 28, mv 28 6]
def o71_3 : List AOper := [mv 5 29, mv 6 30, ⟨.bu .complex [(t 29), (t 30)], (s 31), none⟩, mv 31 4]
def ir71 : AFn := ⟨32, [.tmp 4], (.seq (.ops o71_0) (.seq (.ops o71_1) (.seq (.ops o71_2) (.seq (.ops o71_3) .ret))))⟩
theorem ir71_eq : fnsOf Tryz.prog 71 = some ir71 := by kernel_rfl
def o52_0 : List AOper := [⟨.move (.const f0), (s 2), none⟩]
def o52_1 : List AOper := [mv 0 3, ⟨.bu .real [(t 3)], (s 4), none⟩, mv 0 5, ⟨.bu .real [(t 5)], (s 6), none⟩, bn .mul 4 6 7, mv 0 8, ⟨.bu .imag [(t 8)], (s 9), none⟩, mv 0 10, ⟨.bu .imag [(t 10)], (s 11), none⟩, bn .mul 9 11 12, bn .add 7 12 13, mv 13 2]
def ir52 : AFn := ⟨14, [.tmp 2], (.seq (.ops o52_0) (.seq (.ops o52_1) .ret))⟩
theorem ir52_eq : fnsOf Tryz.prog 52 = some ir52 := by kernel_rfl
def o138_0 : List AOper := [⟨.move (.const (.complex .f64 0 0)), (s 2), none⟩]
def o138_1 : List AOper := [mv 0 3, ⟨.bu .real [(t 3)], (s 4), none⟩, mv 0 5, ⟨.bu .imag [(t 5)], (s 6), none⟩, ⟨.un .neg (t 6), (s 7), none⟩, ⟨.bu .complex [(t 4), (t 7)], (s 8), none⟩, mv 8 2]
def ir138 : AFn := ⟨9, [.tmp 2], (.seq (.ops o138_0) (.seq (.ops o138_1) .ret))⟩
theorem ir138_eq : fnsOf Tryz.prog 138 = some ir138 := by kernel_rfl
def o96_0 : List AOper := [⟨.move (.const f0), (s 2), none⟩, ⟨.move (.const f0), (s 3), none⟩]
def o96_1 : List AOper := [mv 0 4, cl 133 [(t 4)] 5, mv 5 2]
def o96_2 : List AOper := [mv 0 6, mv 2 7, bn .sub 6 7 8, mv 0 9, cl 134 [(t 8), (t 9)] 10, mv 10 3]
def ir96 : AFn := ⟨11, [.tmp 2, .tmp 3], (.seq (.ops o96_0) (.seq (.ops o96_1) (.seq (.ops o96_2) .ret)))⟩
theorem ir96_eq : fnsOf Tryz.prog 96 = some ir96 := by kernel_rfl
def o133_0 : List AOper := [⟨.move (.const f0), (s 2), none⟩]
def o133_1 : List AOper := [mv 0 3, ⟨.ext 3 160 [(t 3)], (s 4), none⟩, mv 4 2]
def o133_2 : List AOper := [mv 0 5, cl 161 [(t 5)] 6, mv 6 2]
def ir133 : AFn := ⟨7, [.tmp 2], (.seq (.ops o133_0) (.seq (.cond (.const (.bool true)) (.seq (.ops o133_1) .ret) .skip) (.seq (.ops o133_2) .ret)))⟩
theorem ir133_eq : fnsOf Tryz.prog 133 = some ir133 := by kernel_rfl
def o134_0 : List AOper := [⟨.move (.const f0), (s 4), none⟩]
def o134_1 : List AOper := [mv 0 5, ⟨.ext 0 25 [(t 5)], (s 6), none⟩, ⟨.bin .andNot (t 6) (.const (.int .u64 9223372036854775808)), (s 7), none⟩, mv 1 8, ⟨.ext 0 25 [(t 8)], (s 9), none⟩, ⟨.bin .and (t 9) (.const (.int .u64 9223372036854775808)), (s 10), none⟩, bn .or 7 10 11, ⟨.ext 1 24 [(t 11)], (s 12), none⟩, mv 12 4]
def ir134 : AFn := ⟨13, [.tmp 4], (.seq (.ops o134_0) (.seq (.ops o134_1) .ret))⟩
theorem ir134_eq : fnsOf Tryz.prog 134 = some ir134 := by kernel_rfl
def o69_0 : List AOper := [⟨.move (.const f0), (s 2), none⟩]
def o69_1 : List AOper := [mv 0 3, ⟨.ext 2 99 [(t 3)], (s 4), none⟩, mv 4 2]
def o69_2 : List AOper := [mv 0 5, cl 100 [(t 5)] 6, mv 6 2]
def ir69 : AFn := ⟨7, [.tmp 2], (.seq (.ops o69_0) (.seq (.cond (.const (.bool true)) (.seq (.ops o69_1) .ret) .skip) (.seq (.ops o69_2) .ret)))⟩
theorem ir69_eq : fnsOf Tryz.prog 69 = some ir69 := by kernel_rfl
def o98_0 : List AOper := [⟨.move (.const f0), (s 6), none⟩]
def o98_1 : List AOper := [mv 0 9, mv 2 10, bi .sub 10 1 11, ⟨.nilCheck (t 9), (s 12), none⟩, ⟨.addrArr 24 1 (t 12) (t 11), (s 13), none⟩, ld 13 14, mv 14 7]
def o98_2 : List AOper := [mv 2 15, bi .sub 15 2 16, mv 16 8]
def o98_4 : List AOper := [mv 8 17, bi .geq 17 0 18]
def o98_5 : List AOper := [mv 7 21, mv 1 22, bn .mul 21 22 23, mv 0 24, mv 8 25, ⟨.nilCheck (t 24), (s 26), none⟩, ⟨.addrArr 24 1 (t 26) (t 25), (s 27), none⟩, ld 27 28, bn .add 23 28 29, mv 29 7]
def o98_6 : List AOper := [mv 8 19, bi .sub 19 1 20, mv 20 8]
def b98_3 : ACode := (.seq (.seq (.ops o98_4) (.cond (t 18) .skip (.exit 0))) (.seq (.block 1 (.ops o98_5)) (.ops o98_6)))
def o98_7 : List AOper := [mv 7 30, mv 30 6]
def ir98 : AFn := ⟨31, [.tmp 6], (.seq (.ops o98_0) (.seq (.ops o98_1) (.seq (.seq (.ops o98_2) (.block 0 (.loop b98_3))) (.seq (.ops o98_7) .ret))))⟩
theorem ir98_eq : fnsOf Tryz.prog 98 = some ir98 := by kernel_rfl
def o12_0 : List AOper := [⟨.move (.const f0), (s 2), none⟩]
def o12_1 : List AOper := [mv 0 3, ⟨.ext 4 26 [(t 3)], (s 4), none⟩, mv 4 2]
def ir12 : AFn := ⟨5, [.tmp 2], (.seq (.ops o12_0) (.seq (.ops o12_1) .ret))⟩
theorem ir12_eq : fnsOf Tryz.prog 12 = some ir12 := by kernel_rfl
def o106_0 : List AOper := [⟨.move (.const (.complex .f64 0 0)), (s 2), none⟩]
def o106_1 : List AOper := [mv 0 6, le 6 7, bi .eql 7 0 8]
def o106_2 : List AOper := [⟨.move (.const (.complex .f64 0 0)), (s 2), none⟩]
def o106_3 : List AOper := [mv 0 9, ⟨.addrSl 1 (t 9) (.const i0), (s 10), none⟩, ld 10 11, mv 11 3]
def o106_4 : List AOper := [mv 0 12, ⟨.slSl 1 (t 12) (some (.const (.int .i64 1))) none none, (s 13), none⟩, le 13 14, mi 0 15]
def o106_6 : List AOper := [bn .lss 15 14 16]
def o106_7 : List AOper := [ad 1 13 15 17, ld 17 18, mv 18 5]
def o106_8 : List AOper := [mv 3 19, mv 5 20, bn .add 19 20 21, mv 21 3]
def o106_9 : List AOper := [bi .add 15 1 22, mv 22 15]
def b106_5 : ACode := (.seq (.ops o106_6) (.seq (.cond (t 16) .skip (.exit 0)) (.seq (.block 1 (.seq (.ops o106_7) (.ops o106_8))) (.ops o106_9))))
def o106_10 : List AOper := [mv 3 23, mv 23 2]
def ir106 : AFn := ⟨24, [.tmp 2], (.seq (.ops o106_0) (.seq (.seq (.ops o106_1) (.cond (t 8) (.seq (.ops o106_2) .ret) .skip)) (.seq (.ops o106_3) (.seq (.seq (.ops o106_4) (.block 0 (.loop b106_5))) (.seq (.ops o106_10) .ret)))))⟩
theorem ir106_eq : fnsOf Tryz.prog 106 = some ir106 := by kernel_rfl
def o28_0 : List AOper := [mb false 2]
def o28_1 : List AOper := [mv 0 3, mv 0 4, bn .neq 3 4 5, mv 5 2]
def ir28 : AFn := ⟨6, [.tmp 2], (.seq (.ops o28_0) (.seq (.ops o28_1) .ret))⟩
theorem ir28_eq : fnsOf Tryz.prog 28 = some ir28 := by kernel_rfl
def o29_0 : List AOper := [mb false 4]
def o29_1 : List AOper := [mv 1 5, bi .eql 5 0 6]
def o29_2 : List AOper := [mv 0 7, ⟨.ext 5 11 [(t 7)], (s 8), none⟩, mv 8 0]
def o29_3 : List AOper := [mv 1 9, bi .lss 9 0 10]
def o29_4 : List AOper := [mv 0 11, ⟨.un .neg (t 11), (s 12), none⟩, mv 12 0]
def o29_5 : List AOper := [mv 0 13, bf .gtr 13 9218868437227405311 14, mv 14 4]
def ir29 : AFn := ⟨15, [.tmp 4], (.seq (.ops o29_0) (.seq (.seq (.ops o29_1) (.cond (t 6) (.ops o29_2) (.seq (.ops o29_3) (.cond (t 10) (.ops o29_4) .skip)))) (.seq (.ops o29_5) .ret)))⟩
theorem ir29_eq : fnsOf Tryz.prog 29 = some ir29 := by kernel_rfl
end Go.Proofs.YtmfaodenkghmkaaGreat

/- The small machine's text of functions of the seat. -/
namespace Go.Proofs.YtmfaodenkghmkaaGreat
open Go Go.Vam Go.Vam.W

def o74_0 : List AOper := [mn 4, mi 0 5]
def o74_1 : List AOper := [mv 1 10, le 10 11, bi .eql 11 0 12, mv 12 9]
def o74_2 : List AOper := [mn 4, mi 2 5]
def o74_3 : List AOper := [mv 0 14, mv 1 15, cl 102 [(t 14), (t 15)] 16, mv 16 13]
def o74_4 : List AOper := [mn 4, mi 3 5]
def d74_5 : List DOper := [⟨mv 0 17, 0⟩, ⟨le 17 18, 1⟩, ⟨⟨.makeSlice 59 16 1 [(.complex .f64 0 0)] (t 18) (t 18), (s 19), none⟩, 3⟩, ⟨mv 1 20, 0⟩, ⟨cl 103 [(t 20)] 21, 8⟩, ⟨mv 19 6, 31⟩, ⟨mv 21 7, 63⟩]
def o74_6 : List AOper := [mv 0 22, le 22 23, mi 0 24]
def o74_8 : List AOper := [bn .lss 24 23 25]
def o74_9 : List AOper := [mv 24 26, mv 26 8]
def o74_10 : List AOper := [mv 6 27, mv 8 28, mv 0 29, mv 8 30, ⟨.slSl 1 (t 29) (some (t 30)) none none, (s 31), none⟩, mv 7 32, cl 104 [(t 31), (t 32)] 33, ad 1 27 28 34, st 1 34 33]
def o74_11 : List AOper := [bi .add 24 1 35, mv 35 24]
def b74_7 : ACode := (.seq (.ops o74_8) (.seq (.cond (t 25) .skip (.exit 1)) (.seq (.block 2 (.seq (.ops o74_9) (.ops o74_10))) (.ops o74_11))))
def o74_12 : List AOper := [mv 6 36, mv 36 4, mi 0 5]
def ir74 : AFn := ⟨37, [.tmp 4, .tmp 5], (.seq (.ops o74_0) (.seq (.block 0 (.seq (.ops o74_1) (.cond (t 9) (.seq (.ops o74_2) .ret) (.seq (.ops o74_3) (.cond (t 13) (.seq (.ops o74_4) .ret) .skip))))) (.seq (.draw d74_5) (.seq (.seq (.ops o74_6) (.block 1 (.loop b74_7))) (.seq (.ops o74_12) .ret)))))⟩
theorem ir74_eq : fnsOf Tryz.prog 74 = some ir74 := by kernel_rfl
def o102_0 : List AOper := [mb false 4]
def o102_1 : List AOper := [mv 0 5, le 5 6, bi .gtr 6 16384 7, mv 7 8, gmv 8 F 1 9, gle 8 F 9 10, gbi 8 F .gtr 10 16384 11, pt 8 11 12, mv 12 13, gmv 13 F 0 14, gle 13 F 14 15, gmv 13 F 1 16, gle 13 F 16 17, gbn 13 F .mul 15 17 18, gbi 13 F .gtr 18 16777216 19, pt 13 19 20, mv 20 4]
def ir102 : AFn := ⟨21, [.tmp 4], (.seq (.ops o102_0) (.seq (.ops o102_1) .ret))⟩
theorem ir102_eq : fnsOf Tryz.prog 102 = some ir102 := by kernel_rfl
def o103_0 : List AOper := [mn 2]
def o103_1 : List AOper := [mv 0 6, le 6 7, ⟨.makeSlice 59 16 1 [(.complex .f64 0 0)] (t 7) (t 7), (s 8), none⟩, mv 8 3]
def o103_2 : List AOper := [mv 0 9, le 9 10, mi 0 11]
def o103_4 : List AOper := [bn .lss 11 10 12]
def o103_5 : List AOper := [mv 11 13, ad 1 9 11 14, ld 14 15, mv 13 4, mv 15 5]
def o103_6 : List AOper := [mv 3 16, mv 4 17, mv 5 18, cl 138 [(t 18)] 19, ad 1 16 17 20, st 1 20 19]
def o103_7 : List AOper := [bi .add 11 1 21, mv 21 11]
def b103_3 : ACode := (.seq (.ops o103_4) (.seq (.cond (t 12) .skip (.exit 0)) (.seq (.block 1 (.seq (.ops o103_5) (.ops o103_6))) (.ops o103_7))))
def o103_8 : List AOper := [mv 3 22, mv 22 2]
def ir103 : AFn := ⟨23, [.tmp 2], (.seq (.ops o103_0) (.seq (.ops o103_1) (.seq (.seq (.ops o103_2) (.block 0 (.loop b103_3))) (.seq (.ops o103_8) .ret))))⟩
theorem ir103_eq : fnsOf Tryz.prog 103 = some ir103 := by kernel_rfl
def o104_0 : List AOper := [⟨.move (.const (.complex .f64 0 0)), (s 4), none⟩]
def o104_1 : List AOper := [⟨.move (.const (.complex .f64 0 0)), (s 5), none⟩]
def o104_2 : List AOper := [mv 0 8, le 8 9, mv 1 10, le 10 11, ⟨.bu .min [(t 9), (t 11)], (s 12), none⟩, mi 0 13]
def o104_4 : List AOper := [bn .lss 13 12 14]
def o104_5 : List AOper := [mv 13 15, mv 15 6]
def d104_6 : List DOper := [⟨mv 0 16, 0⟩, ⟨mv 6 17, 0⟩, ⟨ad 1 16 17 18, 3⟩, ⟨ld 18 19, 7⟩, ⟨mv 1 20, 0⟩, ⟨mv 6 21, 0⟩, ⟨ad 1 20 21 22, 48⟩, ⟨ld 22 23, 112⟩, ⟨cl 71 [(t 19), (t 23)] 24, 255⟩, ⟨mv 24 7, 511⟩]
def o104_7 : List AOper := [mv 6 25, bi .eql 25 0 26]
def o104_8 : List AOper := [mv 7 27, mv 27 5]
def o104_9 : List AOper := [mv 5 28, mv 7 29, bn .add 28 29 30, mv 30 5]
def o104_10 : List AOper := [bi .add 13 1 31, mv 31 13]
def b104_3 : ACode := (.seq (.ops o104_4) (.seq (.cond (t 14) .skip (.exit 0)) (.seq (.block 1 (.seq (.ops o104_5) (.seq (.draw d104_6) (.seq (.ops o104_7) (.cond (t 26) (.ops o104_8) (.ops o104_9)))))) (.ops o104_10))))
def o104_11 : List AOper := [mv 5 32, mv 32 4]
def ir104 : AFn := ⟨33, [.tmp 4], (.seq (.ops o104_0) (.seq (.ops o104_1) (.seq (.seq (.ops o104_2) (.block 0 (.loop b104_3))) (.seq (.ops o104_11) .ret))))⟩
theorem ir104_eq : fnsOf Tryz.prog 104 = some ir104 := by kernel_rfl
end Go.Proofs.YtmfaodenkghmkaaGreat

/- The small machine's text of functions of the seat. -/
namespace Go.Proofs.YtmfaodenkghmkaaGreat
open Go Go.Vam Go.Vam.W

def o97_0 : List AOper := [⟨.alloc 158 [f0, f0, f0, f0, f0, f0, f0, f0, f0, f0, f0, f0, f0, f0, f0, f0, f0, f0, f0, f0, f0, f0, f0, f0], (s 2), none⟩]
def o97_1 : List AOper := [⟨.move (.const (.float .f64 4607182418800017408)), (s 3), none⟩]
def o97_2 : List AOper := [mi 1 4]
def o97_4 : List AOper := [mv 4 5, mv 0 6, ⟨.bin .add (.const (.int .i64 16)) (t 6), (s 7), none⟩, bn .leq 5 7 8]
def o97_5 : List AOper := [mv 3 11, mv 4 12, ⟨.conv (.toFloat .f64) (t 12), (s 13), none⟩, bn .mul 11 13 14, mv 14 3]
def o97_6 : List AOper := [mv 4 15, bi .rem 15 2 16, mv 0 17, bn .eql 16 17 18]
def o97_7 : List AOper := [mv 4 19, bi .quo 19 2 20, mv 4 21, bi .quo 21 2 22, cl 135 [(t 22)] 23, mv 3 24, bn .quo 23 24 25, ⟨.addrArr 24 1 (t 2) (t 20), (s 26), none⟩, st 1 26 25]
def o97_8 : List AOper := [mv 4 9, bi .add 9 1 10, mv 10 4]
def b97_3 : ACode := (.seq (.seq (.ops o97_4) (.cond (t 8) .skip (.exit 0))) (.seq (.block 1 (.seq (.ops o97_5) (.seq (.ops o97_6) (.cond (t 18) (.ops o97_7) .skip)))) (.ops o97_8)))
def o97_9 : List AOper := [mv 0 27, bi .eql 27 0 28]
def o97_10 : List AOper := [⟨.addrArr 24 1 (t 2) (.const i0), (s 29), none⟩, ⟨.store 1 (t 29) (.const (.float .f64 4607182418800017408)), none, none⟩]
def o97_11 : List AOper := [ln 24 2 30, st 24 2 30]
def ir97 : AFn := ⟨31, [.cell 2 (s 24)], (.seq (.ops o97_0) (.seq (.ops o97_1) (.seq (.seq (.ops o97_2) (.block 0 (.loop b97_3))) (.seq (.seq (.ops o97_9) (.cond (t 28) (.ops o97_10) .skip)) (.seq (.ops o97_11) .ret)))))⟩
theorem ir97_eq : fnsOf Tryz.prog 97 = some ir97 := by kernel_rfl
def o135_0 : List AOper := [⟨.move (.const f0), (s 2), none⟩]
def o135_1 : List AOper := [mv 0 3, bi .and 3 1 4, ⟨.bin .mul (.const (.int .i64 2)) (t 4), (s 5), none⟩, ⟨.bin .sub (.const (.int .i64 1)) (t 5), (s 6), none⟩, ⟨.conv (.toFloat .f64) (t 6), (s 7), none⟩, mv 7 2]
def ir135 : AFn := ⟨8, [.tmp 2], (.seq (.ops o135_0) (.seq (.ops o135_1) .ret))⟩
theorem ir135_eq : fnsOf Tryz.prog 135 = some ir135 := by kernel_rfl
end Go.Proofs.YtmfaodenkghmkaaGreat
