/- Closed calls with plain arguments whose answers are known: tables, each entry run by the kernel. -/
import Derived.Test.YtmfaodenkghmkaaGreatBase
import Derived.Test.YtmfaodenkghmkaaGreatVam32
import Derived.Test.YtmfaodenkghmkaaGreatIrT
import Derived.KernelRfl
namespace Go.Proofs.YtmfaodenkghmkaaGreat
open Go Go.Vam

def eqV : Value → Value → Bool
  | .complex .f64 a b, .complex .f64 c d => match Nat.beq a c with | true => Nat.beq b d | false => false
  | .float .f64 a, .float .f64 b => Nat.beq a b
  | .int .i64 (.ofNat a), .int .i64 (.ofNat b) => Nat.beq a b
  | .agg ⟨[.float .f64 a, .float .f64 b]⟩, .agg ⟨[.float .f64 c, .float .f64 d]⟩ => match Nat.beq a c with | true => Nat.beq b d | false => false
  | .int .i64 (.negSucc a), .int .i64 (.negSucc b) => Nat.beq a b
  | _, _ => false
def eqL : List Value → List Value → Bool
  | [], [] => true
  | a :: l, b :: r => match eqV a b with | true => eqL l r | false => false
  | _, _ => false
def isV (v : Value) : Option (Value × AS (Tri ABlk)) → Bool
  | some (u, _) => eqV v u
  | none => false
noncomputable abbrev ev (f : FuncId) (args : List Value) : Option (Value × AS (Tri ABlk)) := evCall (Tri Value) (fnsOf Tryz.prog) 100000 f args none2
def allOk (E : List Value → Option (Value × AS (Tri ABlk))) : List (List Value × Value) → Bool
  | [] => true
  | (a, v) :: l => match isV v (E a) with | true => allOk E l | false => false
def findT : List (List Value × Value) → List Value → Option Value
  | [], _ => none
  | (a, v) :: l, x => match eqL a x with | true => some v | false => findT l x

def tab36 : List (List Value × Value) := [
  ([.int .i64 (0), .int .i64 4], .complex .f64 4607182418800017408 0),
  ([.int .i64 (-1), .int .i64 4], .complex .f64 0 13830554455654793216),
  ([.int .i64 (-2), .int .i64 4], .complex .f64 13830554455654793216 0),
  ([.int .i64 (-3), .int .i64 4], .complex .f64 0 4607182418800017408),
  ([.int .i64 (1), .int .i64 4], .complex .f64 0 4607182418800017408),
  ([.int .i64 (2), .int .i64 4], .complex .f64 13830554455654793216 0),
  ([.int .i64 (3), .int .i64 4], .complex .f64 0 13830554455654793216)]
theorem tab36_ok : allOk (ev 36) tab36 = true := by kernel_rfl
def tab38 : List (List Value × Value) := [
  ([.float .f64 13864612927836782592], .complex .f64 4607182418800017408 0)]
theorem tab38_ok : allOk (ev 38) tab38 = true := by kernel_rfl
def tab52 : List (List Value × Value) := [
  ([.complex .f64 0 0], .float .f64 0),
  ([.complex .f64 4616189618054758400 0], .float .f64 4625196817309499392),
  ([.complex .f64 13839561654909534208 0], .float .f64 4625196817309499392),
  ([.complex .f64 4625196817309499392 0], .float .f64 4643211215818981376)]
theorem tab52_ok : allOk (ev 52) tab52 = true := by kernel_rfl
def tab70 : List (List Value × Value) := [
  ([.complex .f64 0 0, .float .f64 4607182418800017408], .complex .f64 0 0),
  ([.complex .f64 4607182418800017408 0, .float .f64 4607182418800017408], .complex .f64 4607182418800017408 0),
  ([.complex .f64 13830554455654793216 0, .float .f64 4607182418800017408], .complex .f64 13830554455654793216 0),
  ([.complex .f64 4616189618054758400 0, .float .f64 4607182418800017408], .complex .f64 4616189618054758400 0)]
theorem tab70_ok : allOk (ev 70) tab70 = true := by kernel_rfl
def tab71 : List (List Value × Value) := [
  ([.complex .f64 0 0, .complex .f64 4607182418800017408 9223372036854775808], .complex .f64 0 0),
  ([.complex .f64 0 0, .complex .f64 4607182418800017408 0], .complex .f64 0 0),
  ([.complex .f64 0 0, .complex .f64 13830554455654793216 0], .complex .f64 9223372036854775808 0),
  ([.complex .f64 0 0, .complex .f64 13830554455654793216 9223372036854775808], .complex .f64 0 9223372036854775808),
  ([.complex .f64 4607182418800017408 0, .complex .f64 4607182418800017408 9223372036854775808], .complex .f64 4607182418800017408 0),
  ([.complex .f64 4607182418800017408 0, .complex .f64 4607182418800017408 0], .complex .f64 4607182418800017408 0),
  ([.complex .f64 0 0, .complex .f64 0 13830554455654793216], .complex .f64 0 0),
  ([.complex .f64 0 0, .complex .f64 0 4607182418800017408], .complex .f64 0 0),
  ([.complex .f64 13830554455654793216 0, .complex .f64 4607182418800017408 0], .complex .f64 13830554455654793216 0),
  ([.complex .f64 4607182418800017408 0, .complex .f64 13830554455654793216 9223372036854775808], .complex .f64 13830554455654793216 9223372036854775808),
  ([.complex .f64 13830554455654793216 0, .complex .f64 4607182418800017408 9223372036854775808], .complex .f64 13830554455654793216 0),
  ([.complex .f64 4607182418800017408 0, .complex .f64 13830554455654793216 0], .complex .f64 13830554455654793216 0),
  ([.complex .f64 13830554455654793216 0, .complex .f64 13830554455654793216 0], .complex .f64 4607182418800017408 9223372036854775808),
  ([.complex .f64 4616189618054758400 0, .complex .f64 4607182418800017408 0], .complex .f64 4616189618054758400 0),
  ([.complex .f64 13830554455654793216 0, .complex .f64 13830554455654793216 9223372036854775808], .complex .f64 4607182418800017408 0),
  ([.complex .f64 4607182418800017408 0, .complex .f64 0 13830554455654793216], .complex .f64 0 13830554455654793216),
  ([.complex .f64 4607182418800017408 0, .complex .f64 0 4607182418800017408], .complex .f64 0 4607182418800017408),
  ([.complex .f64 13830554455654793216 0, .complex .f64 0 13830554455654793216], .complex .f64 0 4607182418800017408),
  ([.complex .f64 13830554455654793216 0, .complex .f64 0 4607182418800017408], .complex .f64 9223372036854775808 13830554455654793216),
  ([.complex .f64 4616189618054758400 0, .complex .f64 13830554455654793216 0], .complex .f64 13839561654909534208 0),
  ([.complex .f64 4616189618054758400 0, .complex .f64 0 13830554455654793216], .complex .f64 0 13839561654909534208),
  ([.complex .f64 4616189618054758400 0, .complex .f64 0 4607182418800017408], .complex .f64 0 4616189618054758400)]
theorem tab71_ok : allOk (ev 71) tab71 = true := by kernel_rfl
def tab138 : List (List Value × Value) := [
  ([.complex .f64 4607182418800017408 0], .complex .f64 4607182418800017408 9223372036854775808),
  ([.complex .f64 13830554455654793216 0], .complex .f64 13830554455654793216 9223372036854775808)]
theorem tab138_ok : allOk (ev 138) tab138 = true := by kernel_rfl

/-- The calls that are known. -/
def orcV (f : FuncId) (args : List Value) : Option Value :=
  bif Nat.beq f 71 then findT tab71 args else
  bif Nat.beq f 36 then findT tab36 args else
  bif Nat.beq f 52 then findT tab52 args else
  bif Nat.beq f 70 then findT tab70 args else
  bif Nat.beq f 138 then findT tab138 args else
  bif Nat.beq f 38 then findT tab38 args else
  none
def orcT : CallF (Tri ABlk) := fun f args s => match orcV f args with | some v => some (v, s) | none => none

end Go.Proofs.YtmfaodenkghmkaaGreat
