/- Closed calls with plain arguments whose answers are known: tables, each entry run by the kernel. -/
import Derived.Test.YtcocakiincejaaaGreatBase
import Derived.Test.YtcocakiincejaaaGreatVam32
import Derived.Test.YtcocakiincejaaaGreatIrT
import Derived.KernelRfl
namespace Go.Proofs.YtcocakiincejaaaGreat
open Go Go.Vam

def eqV : Value → Value → Bool
  | .complex .f64 a b, .complex .f64 c d => match Nat.beq a c with | true => Nat.beq b d | false => false
  | .float .f64 a, .float .f64 b => Nat.beq a b
  | .int .i64 (.ofNat a), .int .i64 (.ofNat b) => Nat.beq a b
  | .agg ⟨[.float .f64 a, .float .f64 b]⟩, .agg ⟨[.float .f64 c, .float .f64 d]⟩ => match Nat.beq a c with | true => Nat.beq b d | false => false
  | .int .i64 (.negSucc a), .int .i64 (.negSucc b) => Nat.beq a b
  | _, _ => false
def eqL : List Value → List Value → Bool
  | [], [] => true
  | a :: l, b :: r => match eqV a b with | true => eqL l r | false => false
  | _, _ => false
def isV (v : Value) : Option (Value × AS (Tri ABlk)) → Bool
  | some (u, _) => eqV v u
  | none => false
noncomputable abbrev ev (f : FuncId) (args : List Value) : Option (Value × AS (Tri ABlk)) := evCall (Tri Value) (fnsOf Tryz.prog) 100000 f args none2
def allOk (E : List Value → Option (Value × AS (Tri ABlk))) : List (List Value × Value) → Bool
  | [] => true
  | (a, v) :: l => match isV v (E a) with | true => allOk E l | false => false
def findT : List (List Value × Value) → List Value → Option Value
  | [], _ => none
  | (a, v) :: l, x => match eqL a x with | true => some v | false => findT l x

def tab38 : List (List Value × Value) := [
  ([.int .i64 (0), .int .i64 4], .complex .f64 4607182418800017408 0),
  ([.int .i64 (-1), .int .i64 4], .complex .f64 0 13830554455654793216),
  ([.int .i64 (-2), .int .i64 4], .complex .f64 13830554455654793216 0),
  ([.int .i64 (-3), .int .i64 4], .complex .f64 0 4607182418800017408),
  ([.int .i64 (1), .int .i64 4], .complex .f64 0 4607182418800017408),
  ([.int .i64 (2), .int .i64 4], .complex .f64 13830554455654793216 0),
  ([.int .i64 (3), .int .i64 4], .complex .f64 0 13830554455654793216)]
theorem tab38_ok : allOk (ev 38) tab38 = true := by kernel_rfl
def tab40 : List (List Value × Value) := [
  ([.float .f64 13864612927836782592], .complex .f64 4607182418800017408 0)]
theorem tab40_ok : allOk (ev 40) tab40 = true := by kernel_rfl
def tab59 : List (List Value × Value) := [
  ([.complex .f64 0 0], .float .f64 0),
  ([.complex .f64 4616189618054758400 0], .float .f64 4625196817309499392),
  ([.complex .f64 13839561654909534208 0], .float .f64 4625196817309499392),
  ([.complex .f64 4625196817309499392 0], .float .f64 4643211215818981376)]
theorem tab59_ok : allOk (ev 59) tab59 = true := by kernel_rfl
def tab84 : List (List Value × Value) := [
  ([.complex .f64 0 0, .float .f64 4607182418800017408], .complex .f64 0 0),
  ([.complex .f64 4607182418800017408 0, .float .f64 4607182418800017408], .complex .f64 4607182418800017408 0),
  ([.complex .f64 13830554455654793216 0, .float .f64 4607182418800017408], .complex .f64 13830554455654793216 0),
  ([.complex .f64 4616189618054758400 0, .float .f64 4607182418800017408], .complex .f64 4616189618054758400 0)]
theorem tab84_ok : allOk (ev 84) tab84 = true := by kernel_rfl
def tab85 : List (List Value × Value) := [
  ([.complex .f64 0 0, .complex .f64 4607182418800017408 9223372036854775808], .complex .f64 0 0),
  ([.complex .f64 0 0, .complex .f64 4607182418800017408 0], .complex .f64 0 0),
  ([.complex .f64 0 0, .complex .f64 13830554455654793216 0], .complex .f64 9223372036854775808 0),
  ([.complex .f64 0 0, .complex .f64 13830554455654793216 9223372036854775808], .complex .f64 0 9223372036854775808),
  ([.complex .f64 4607182418800017408 0, .complex .f64 4607182418800017408 9223372036854775808], .complex .f64 4607182418800017408 0),
  ([.complex .f64 4607182418800017408 0, .complex .f64 4607182418800017408 0], .complex .f64 4607182418800017408 0),
  ([.complex .f64 0 0, .complex .f64 0 13830554455654793216], .complex .f64 0 0),
  ([.complex .f64 0 0, .complex .f64 0 4607182418800017408], .complex .f64 0 0),
  ([.complex .f64 13830554455654793216 0, .complex .f64 4607182418800017408 0], .complex .f64 13830554455654793216 0),
  ([.complex .f64 4607182418800017408 0, .complex .f64 13830554455654793216 9223372036854775808], .complex .f64 13830554455654793216 9223372036854775808),
  ([.complex .f64 13830554455654793216 0, .complex .f64 4607182418800017408 9223372036854775808], .complex .f64 13830554455654793216 0),
  ([.complex .f64 4607182418800017408 0, .complex .f64 13830554455654793216 0], .complex .f64 13830554455654793216 0),
  ([.complex .f64 13830554455654793216 0, .complex .f64 13830554455654793216 0], .complex .f64 4607182418800017408 9223372036854775808),
  ([.complex .f64 4616189618054758400 0, .complex .f64 4607182418800017408 0], .complex .f64 4616189618054758400 0),
  ([.complex .f64 13830554455654793216 0, .complex .f64 13830554455654793216 9223372036854775808], .complex .f64 4607182418800017408 0),
  ([.complex .f64 4607182418800017408 0, .complex .f64 0 13830554455654793216], .complex .f64 0 13830554455654793216),
  ([.complex .f64 4607182418800017408 0, .complex .f64 0 4607182418800017408], .complex .f64 0 4607182418800017408),
  ([.complex .f64 13830554455654793216 0, .complex .f64 0 13830554455654793216], .complex .f64 0 4607182418800017408),
  ([.complex .f64 13830554455654793216 0, .complex .f64 0 4607182418800017408], .complex .f64 9223372036854775808 13830554455654793216),
  ([.complex .f64 4616189618054758400 0, .complex .f64 13830554455654793216 0], .complex .f64 13839561654909534208 0),
  ([.complex .f64 4616189618054758400 0, .complex .f64 0 13830554455654793216], .complex .f64 0 13839561654909534208),
  ([.complex .f64 4616189618054758400 0, .complex .f64 0 4607182418800017408], .complex .f64 0 4616189618054758400)]
theorem tab85_ok : allOk (ev 85) tab85 = true := by kernel_rfl
def tab155 : List (List Value × Value) := [
  ([.complex .f64 4607182418800017408 0], .complex .f64 4607182418800017408 9223372036854775808),
  ([.complex .f64 13830554455654793216 0], .complex .f64 13830554455654793216 9223372036854775808)]
theorem tab155_ok : allOk (ev 155) tab155 = true := by kernel_rfl

/-- The calls that are known. -/
def orcV (f : FuncId) (args : List Value) : Option Value :=
  bif Nat.beq f 85 then findT tab85 args else
  bif Nat.beq f 38 then findT tab38 args else
  bif Nat.beq f 59 then findT tab59 args else
  bif Nat.beq f 84 then findT tab84 args else
  bif Nat.beq f 155 then findT tab155 args else
  bif Nat.beq f 40 then findT tab40 args else
  none
def orcT : CallF (Tri ABlk) := fun f args s => match orcV f args with | some v => some (v, s) | none => none

end Go.Proofs.YtcocakiincejaaaGreat
