/- The abstract machine: states, operations, the evaluator. No program's text is named here. -/
import Derived.Calls
namespace Go.Vam
open Go
inductive Trie (α : Type) where
  | leaf
  | node (v : Option α) (l r : Trie α)
namespace Trie
variable {α : Type}
def getV : Option α → Option α := id
def get : Trie α → Nat → Option α
  | .leaf, _ => none
  | .node v l r, n => match n with
    | 0 => v
    | n + 1 => if n % 2 = 0 then l.get (n / 2) else r.get (n / 2)
def setF : Nat → Trie α → Nat → Option α → Trie α
  | 0, t, _, _ => t
  | f + 1, t, n, x =>
    match t with
    | .leaf => match n with
      | 0 => .node x .leaf .leaf
      | n + 1 => if n % 2 = 0 then .node none (setF f .leaf (n / 2) x) .leaf else .node none .leaf (setF f .leaf (n / 2) x)
    | .node v l r => match n with
      | 0 => .node x l r
      | n + 1 => if n % 2 = 0 then .node v (setF f l (n / 2) x) r else .node v l (setF f r (n / 2) x)
def set (t : Trie α) (n : Nat) (x : Option α) : Trie α := setF (n + 1) t n x
theorem get_setF (f : Nat) : ∀ (t : Trie α) (n : Nat) (x : Option α) (m : Nat), n < f →
    (setF f t n x).get m = if m = n then x else t.get m := by
  induction f with
  | zero => intro t n x m h; omega
  | succ f ih =>
    intro t n x m h
    cases t with
    | leaf =>
      cases n with
      | zero =>
        cases m with
        | zero => simp [setF, get]
        | succ m => simp [setF, get]
      | succ n =>
        have hn : n / 2 < f := by omega
        simp only [setF]
        cases m with
        | zero => split <;> simp [get]
        | succ m =>
          by_cases e : n % 2 = 0
          · simp only [e, if_true, get]
            by_cases e' : m % 2 = 0
            · simp only [e', if_true, ih _ _ _ _ hn]
              by_cases hh : m / 2 = n / 2
              · have : m = n := by omega
                simp [this]
              · have : m ≠ n := by omega
                simp [hh, this, get]
            · have : m ≠ n := by omega
              simp [e', this]
          · simp only [e, if_false, get]
            by_cases e' : m % 2 = 0
            · have : m ≠ n := by omega
              simp [e', this]
            · simp only [e', if_false, ih _ _ _ _ hn]
              by_cases hh : m / 2 = n / 2
              · have : m = n := by omega
                simp [this]
              · have : m ≠ n := by omega
                simp [hh, this, get]
    | node v l r =>
      cases n with
      | zero =>
        cases m with
        | zero => simp [setF, get]
        | succ m => simp [setF, get]
      | succ n =>
        have hn : n / 2 < f := by omega
        simp only [setF]
        cases m with
        | zero => split <;> simp [get]
        | succ m =>
          by_cases e : n % 2 = 0
          · simp only [e, if_true, get]
            by_cases e' : m % 2 = 0
            · simp only [e', if_true, ih _ _ _ _ hn]
              by_cases hh : m / 2 = n / 2
              · have : m = n := by omega
                simp [this]
              · have : m ≠ n := by omega
                simp [hh, this]
            · have : m ≠ n := by omega
              simp [e', this]
          · simp only [e, if_false, get]
            by_cases e' : m % 2 = 0
            · have : m ≠ n := by omega
              simp [e', this]
            · simp only [e', if_false, ih _ _ _ _ hn]
              by_cases hh : m / 2 = n / 2
              · have : m = n := by omega
                simp [this]
              · have : m ≠ n := by omega
                simp [hh, this]
theorem get_set (t : Trie α) (n : Nat) (x : Option α) (m : Nat) : (t.set n x).get m = if m = n then x else t.get m :=
  get_setF _ t n x m (Nat.lt_succ_self n)
end Trie
class Store (S : Type) (α : outParam Type) where
  get : S → Nat → Option α
  put : S → Nat → Option α → S
  emp : S
  get_put : ∀ s n x m, get (put s n x) m = if m = n then x else get s m
  get_emp : ∀ m, get emp m = none
instance {α : Type} : Store (Trie α) α where
  get := Trie.get
  put := Trie.set
  emp := .leaf
  get_put := Trie.get_set
  get_emp := fun _ => rfl
structure FunS (α : Type) where
  f : Nat → Option α
instance {α : Type} : Store (FunS α) α where
  get s n := s.f n
  put s n x := ⟨fun m => if m = n then x else s.f m⟩
  emp := ⟨fun _ => none⟩
  get_put := fun _ _ _ _ => rfl
  get_emp := fun _ => rfl
def OPEN : Nat := 18446744073709551616
def nanF : FloatKind → Nat
  | .f64 => 27665612510936956929
  | .f32 => 6434062337
inductive ABlk where
  | cells (cs : List Value) (opn : Bool)
  | ro (cs : List Value)
  | map (es : List (Value × Value × Nat)) (clock : Nat)
  | iter (s : ByteArray) (pos : Nat)
def ABlk.rw : ABlk → Bool
  | .ro _ => false
  | _ => true
structure AS (H : Type) where
  h : H
  nxt : Nat
def wrapK : IntKind → Int → Int
  | .i64, n => let m := n % 18446744073709551616; if 9223372036854775808 ≤ m then m - 18446744073709551616 else m
  | .i32, n => let m := n % 4294967296; if 2147483648 ≤ m then m - 4294967296 else m
  | .i16, n => let m := n % 65536; if 32768 ≤ m then m - 65536 else m
  | .i8, n => let m := n % 256; if 128 ≤ m then m - 256 else m
  | .u64, n => n % 18446744073709551616
  | .u32, n => n % 4294967296
  | .u16, n => n % 65536
  | .u8, n => n % 256
theorem wrapK_eq (k : IntKind) (n : Int) : wrapK k n = k.wrap n := by
  cases k <;> simp [wrapK, IntKind.wrap, IntKind.bits, IntKind.signed]
def fres (k : FloatKind) : Option Nat → Nat
  | some r => r
  | none => nanF k
def fadd (k : FloatKind) (x y : Nat) : Nat := fres k (k.format.add x y)
def fsub (k : FloatKind) (x y : Nat) : Nat := fres k (k.format.sub x y)
def fmul (k : FloatKind) (x y : Nat) : Nat := fres k (k.format.mul x y)
def fdiv (k : FloatKind) (x y : Nat) : Nat := fres k (k.format.div x y)
def ford (k : FloatKind) (x y : Nat) : Option Ordering := k.format.order x y
def fisNaN (k : FloatKind) (x : Nat) : Bool := (k.decode x).isNaN
def fneg (k : FloatKind) (x : Nat) : Nat := if x = nanF k then x else Op.negFloat k x
def fknown (k : FloatKind) (x : Nat) : Bool := x != nanF k
def intBitsV (op : BinOp) (k : IntKind) (x y : Int) : Option Int :=
  let a := BitVec.ofInt k.bits x
  let b := BitVec.ofInt k.bits y
  match op with
  | .and => some (wrapK k (a &&& b).toNat)
  | .or => some (wrapK k (a ||| b).toNat)
  | .xor => some (wrapK k (a ^^^ b).toNat)
  | .andNot => some (wrapK k (a &&& ~~~b).toNat)
  | _ => none
def shiftV (op : BinOp) (k : IntKind) (x y : Int) : Option Int :=
  if y < 0 then none else
  let n := min y.toNat k.bits
  match op with
  | .shl => some (wrapK k (x * 2 ^ n))
  | .shr => some (x.fdiv (2 ^ n))
  | _ => none
def binV (op : BinOp) : Value → Value → Option Value
  | .int k a, .int k' b =>
    match op with
    | .shl | .shr => (shiftV op k a b).map (.int k)
    | .add => if k = k' then some (.int k (wrapK k (a + b))) else none
    | .sub => if k = k' then some (.int k (wrapK k (a - b))) else none
    | .mul => if k = k' then some (.int k (wrapK k (a * b))) else none
    | .quo => if k = k' ∧ b ≠ 0 then some (.int k (wrapK k (a.tdiv b))) else none
    | .rem => if k = k' ∧ b ≠ 0 then some (.int k (a.tmod b)) else none
    | .and | .or | .xor | .andNot => if k = k' then (intBitsV op k a b).map (.int k) else none
    | .eql => if k = k' then some (.bool (a == b)) else none
    | .neq => if k = k' then some (.bool (a != b)) else none
    | .lss => if k = k' then some (.bool (a < b)) else none
    | .leq => if k = k' then some (.bool (a ≤ b)) else none
    | .gtr => if k = k' then some (.bool (a > b)) else none
    | .geq => if k = k' then some (.bool (a ≥ b)) else none
  | .float k a, .float k' b =>
    if k = k' then
      match op with
      | .add => some (.float k (fadd k a b))
      | .sub => some (.float k (fsub k a b))
      | .mul => some (.float k (fmul k a b))
      | .quo => some (.float k (fdiv k a b))
      | .eql => some (.bool (ford k a b == some .eq))
      | .neq => some (.bool (ford k a b != some .eq))
      | .lss => some (.bool (ford k a b == some .lt))
      | .leq => some (.bool (ford k a b == some .lt || ford k a b == some .eq))
      | .gtr => some (.bool (ford k a b == some .gt))
      | .geq => some (.bool (ford k a b == some .gt || ford k a b == some .eq))
      | _ => none
    else none
  | .complex k a b, .complex k' c d =>
    if k = k' then
      match op with
      | .add => some (.complex k (fadd k a c) (fadd k b d))
      | .sub => some (.complex k (fsub k a c) (fsub k b d))
      | .eql => some (.bool ((ford k a c == some .eq) && (ford k b d == some .eq)))
      | .neq => some (.bool !((ford k a c == some .eq) && (ford k b d == some .eq)))
      | _ => none
    else none
  | .string a, .string b =>
    match op with
    | .add => if a.size + b.size < 9223372036854775808 then some (.string (a ++ b)) else none
    | .eql => some (.bool (a.toList == b.toList))
    | .neq => some (.bool !(a.toList == b.toList))
    | .lss => some (.bool (Op.bytesLess a.toList b.toList))
    | .leq => some (.bool (Op.bytesLess a.toList b.toList || a.toList == b.toList))
    | .gtr => some (.bool !(Op.bytesLess a.toList b.toList || a.toList == b.toList))
    | .geq => some (.bool !(Op.bytesLess a.toList b.toList))
    | _ => none
  | _, _ => none
def unV (op : UnOp) : Value → Option Value
  | .int k n => match op with
    | .neg => some (.int k (wrapK k (0 - n)))
    | .xor => (intBitsV .xor k (if k.signed then -1 else k.max) n).map (.int k)
    | _ => none
  | .float k b => match op with
    | .neg => some (.float k (fneg k b))
    | _ => none
  | .complex k a b => match op with
    | .neg => some (.complex k (fneg k a) (fneg k b))
    | _ => none
  | .bool b => match op with
    | .not => some (.bool !b)
    | _ => none
  | _ => none
inductive ATy where
  | bool | int | float | complex | str | ptr | slice | map | func | iface
  | struct (fs : List (Nat × Option Nat × ATy))
  | array (n sz : Nat) (agg : Bool) (e : ATy)
def partV (cs : List Value) (off : Nat) : Option Nat → Option Value
  | none => cs[off]?
  | some n => if off + n ≤ cs.length then some (.agg ((cs.drop off).take n).toArray) else none
mutual
def eqV : ATy → Value → Value → Option Bool
  | .bool, .bool a, .bool b => some (a == b)
  | .int, .int k a, .int k' b => if k = k' then some (a == b) else none
  | .float, .float k a, .float k' b => if k = k' then some (ford k a b == some .eq) else none
  | .complex, .complex k a b, .complex k' c d => if k = k' then some ((ford k a c == some .eq) && (ford k b d == some .eq)) else none
  | .str, .string a, .string b => some (a.toList == b.toList)
  | .ptr, .pointer none, .pointer b => some b.isNone
  | .ptr, .pointer (some _), .pointer none => some false
  | .slice, .slice none _ _, .slice b _ _ => some b.isNone
  | .slice, .slice (some _) _ _, .slice none _ _ => some false
  | .map, .map none, .map b => some b.isNone
  | .map, .map (some _), .map none => some false
  | .func, .nilFunc, .nilFunc => some true
  | .func, .nilFunc, .func .. => some false
  | .func, .func .., .nilFunc => some false
  | .struct fs, .agg xs, .agg ys => eqFs fs xs.toList ys.toList
  | _, _, _ => none
  termination_by structural t => t
def eqFs : List (Nat × Option Nat × ATy) → List Value → List Value → Option Bool
  | [], _, _ => some true
  | (off, n, t) :: fs, xs, ys =>
    match partV xs off n, partV ys off n with
    | some x, some y => match eqV t x y with
      | some true => eqFs fs xs ys
      | r => r
    | _, _ => none
  termination_by structural l => l
end
inductive ConvK where
  | toInt (k : IntKind)
  | toFloat (k : FloatKind)
  | toComplex (k : FloatKind)
  | same
  | bytes (elem : TypeId)
  | text
def ffV (src : FloatKind) (b : Nat) (dst : FloatKind) : Option Nat :=
  if src = dst then some b else
  match src.decode b with
  | .nan _ _ => some (nanF dst)
  | .infinity s => some (dst.encode (.infinity s))
  | .number s m e => if (dst.decode (dst.encode (.number s m e))).isInfinity then none else some (dst.encode (.number s m e))
def convV : ConvK → Value → Option Value
  | .toInt k, .int _ n => some (.int k (wrapK k n))
  | .toInt k, .float s b =>
    match (s.decode b).toInt .zero with
    | some n => if k.min ≤ n ∧ n ≤ k.max then some (.int k n) else none
    | none => none
  | .toFloat k, .int _ n => some (.float k (k.nearest n))
  | .toFloat k, .float s b => (ffV s b k).map (.float k)
  | .toComplex k, .complex s a b => do some (.complex k (← ffV s a k) (← ffV s b k))
  | .same, .string s => some (.string s)
  | _, _ => none
inductive ABu where
  | len | lenS | cap | real | imag | complex | min | max
inductive AOp where
  | move (x : Operand)
  | pick (c a b : Operand)
  | bin (op : BinOp) (x y : Operand)
  | eq (neg : Bool) (t : ATy) (x y : Operand)
  | un (op : UnOp) (x : Operand)
  | conv (c : ConvK) (x : Operand)
  | nilCheck (x : Operand)
  | extract (x : Operand) (i : Nat)
  | field (off : Nat) (n : Option Nat) (x : Operand)
  | fieldAddr (off : Nat) (x : Operand)
  | addrArr (len sz : Nat) (x i : Operand)
  | addrSl (sz : Nat) (x i : Operand)
  | idxArr (len sz : Nat) (agg : Bool) (x i : Operand)
  | idxStr (x i : Operand)
  | slStr (x : Operand) (lo hi : Option Operand)
  | slSl (sz : Nat) (x : Operand) (lo hi mx : Option Operand)
  | slArr (n sz : Nat) (x : Operand) (lo hi mx : Option Operand)
  | build (zero : List Value) (parts : List (Nat × Nat × Operand))
  | mkFunc (fn : Fn) (first captured : List Operand)
  | mkIface (t : TypeId) (x : Operand)
  | bu (b : ABu) (xs : List Operand)
  | load (n : Option Nat) (a : Operand)
  | text (x : Operand)
  | lookup (kt : ATy) (zero : Value) (ok : Bool) (m k : Operand)
  | lenMap (m : Operand)
  | alloc (elem : TypeId) (zero : List Value)
  | box (elem : TypeId) (x : Operand)
  | buildSlice (elem : TypeId) (sz : Nat) (zero : List Value) (len : Nat) (parts : List (Nat × Operand))
  | makeSlice (elem : TypeId) (bytes sz : Nat) (zero : List Value) (l c : Operand)
  | makeMap
  | store (n : Nat) (a x : Operand)
  | mapPut (kt : ATy) (m k x : Operand)
  | mapDel (kt : ATy) (m k : Operand)
  | append (elem : TypeId) (bytes sz : Nat) (zero : List Value) (s x : Operand)
  | copy (sz : Nat) (d s : Operand)
  | bytes (elem : TypeId) (x : Operand)
  | strish (x : Operand)
  | ext (e : Nat) (f : FuncId) (xs : List Operand)
  | call (f : Operand) (xs : List Operand)
def AOp.operands : AOp → List Operand
  | .move x | .un _ x | .conv _ x | .nilCheck x | .extract x _ | .field _ _ x | .fieldAddr _ x | .mkIface _ x | .load _ x | .text x | .lenMap x | .box _ x | .bytes _ x | .strish x => [x]
  | .pick c a b => [c, a, b]
  | .bin _ x y | .eq _ _ x y | .addrArr _ _ x y | .addrSl _ x y | .idxArr _ _ _ x y | .idxStr x y | .lookup _ _ _ x y | .makeSlice _ _ _ _ x y | .store _ x y | .mapDel _ x y | .append _ _ _ _ x y | .copy _ x y => [x, y]
  | .slStr x lo hi => x :: (lo.toList ++ hi.toList)
  | .slSl _ x lo hi mx | .slArr _ _ x lo hi mx => x :: (lo.toList ++ hi.toList ++ mx.toList)
  | .build _ ps => ps.map (·.2.2)
  | .buildSlice _ _ _ _ ps => ps.map (·.2)
  | .mkFunc _ first captured => first ++ captured
  | .bu _ xs | .ext _ _ xs => xs
  | .mapPut _ m k x => [m, k, x]
  | .call f xs => f :: xs
  | .alloc .. | .makeMap => []
structure AOper where
  op : AOp
  dst : Option Tmp
  guard : Option (Tmp × Bool)
structure DOper where
  o : AOper
  pre : Nat
inductive ACode where
  | skip
  | ops (l : List AOper)
  | draw (l : List DOper)
  | seq (a b : ACode)
  | cond (c : Operand) (t e : ACode)
  | block (id : Nat) (b : ACode)
  | loop (b : ACode)
  | exit (id : Nat)
  | ret
inductive ARes where
  | tmp (t : Tmp)
  | cell (a : Tmp) (n : Option Nat)
structure AFn where
  ntmps : Nat
  results : List ARes
  body : ACode
section eval
variable {F H : Type} [Store F Value] [Store H ABlk]
def undefV : Value := .tuple #[]
def geT (fr : F) (t : Tmp) : Value := (Store.get fr t).getD undefV
def evO (fr : F) : Operand → Value
  | .tmp t => geT fr t
  | .const v => v
  | .global g => .pointer (some ⟨g, 0, none⟩)
  | .func f => .func (.func f) #[] #[]
def puT (fr : F) : Option Tmp → Value → F
  | some d, v => Store.put fr d (some v)
  | none, _ => fr
def oneCell : Value → Bool
  | .agg _ | .tuple _ => false
  | _ => true
def cellsAt (s : AS H) (a : Addr) (n : Nat) : Option (List Value) :=
  match Store.get s.h a.block with
  | some (.cells cs _) => if a.spot.isSome then none else if a.off + n ≤ cs.length then some ((cs.drop a.off).take n) else none
  | some (.ro cs) => if a.spot.isSome then none else if a.off + n ≤ cs.length then some ((cs.drop a.off).take n) else none
  | _ => none
def cellAt (s : AS H) (a : Addr) : Option Value :=
  match Store.get s.h a.block with
  | some (.cells cs _) => if a.spot.isSome then none else cs[a.off]?
  | some (.ro cs) => if a.spot.isSome then none else cs[a.off]?
  | _ => none
def loadV (s : AS H) : Option Nat → Value → Option Value
  | none, .pointer (some a) => cellAt s a
  | some n, .pointer (some a) => (cellsAt s a n).map fun cs => .agg cs.toArray
  | _, _ => none
def putL : List Value → Nat → List Value → List Value
  | cs, _, [] => cs
  | [], _, _ => []
  | _ :: cs, 0, v :: vs => v :: putL cs 0 vs
  | c :: cs, n + 1, vs => c :: putL cs n vs
def putCells (s : AS H) (a : Addr) (vs : List Value) : Option (AS H) :=
  match Store.get s.h a.block with
  | some (.cells cs o) =>
    if a.spot.isSome then none
    else if a.off + vs.length ≤ cs.length then
      if vs.all oneCell then some { s with h := Store.put s.h a.block (some (.cells (putL cs a.off vs) o)) } else none
    else none
  | _ => none
def newAt (s : AS H) (b : ABlk) : AS H := { h := Store.put s.h s.nxt (some b), nxt := s.nxt + 1 }
def idxV (i : Value) (len : Nat) : Option Nat :=
  match i with
  | .int _ n => if 0 ≤ n ∧ n < len then some n.toNat else none
  | _ => none
def bndV (i : Value) (y : Nat) : Option Nat :=
  match i with
  | .int _ n => if 0 ≤ n ∧ n ≤ y then some n.toNat else none
  | _ => none
def bounds (len cap : Nat) (lo hi mx : Option Value) : Option (Nat × Nat × Nat) :=
  match (match mx with | some v => bndV v cap | none => some cap) with
  | none => none
  | some m =>
    match (match hi, mx with | some v, _ => bndV v m | none, none => some len | none, some _ => none) with
    | none => none
    | some h =>
      match (match lo with | some v => bndV v h | none => some 0) with
      | none => none
      | some l => some (l, h, m)
def fillL (cs : List Value) : List (Nat × Nat × Value) → Option (List Value)
  | [] => some cs
  | (off, size, v) :: rest =>
    if v.cells.size = size ∧ off + size ≤ cs.length then fillL (putL cs off v.cells.toList) rest else none
def repZ (zero : List Value) : Nat → List Value
  | 0 => []
  | n + 1 => zero ++ repZ zero n
def min2V : Value → Value → Option Value
  | .int k x, .int k' y => if k = k' then some (.int k (if y < x then y else x)) else none
  | .float k x, .float k' y =>
    if k = k' then
      match ford k x y with
      | none => some (.float k (nanF k))
      | some .lt => some (.float k x)
      | some .gt => some (.float k y)
      | some .eq => some (.float k (if (k.decode x).neg then x else y))
    else none
  | _, _ => none
def max2V : Value → Value → Option Value
  | .int k x, .int k' y => if k = k' then some (.int k (if y > x then y else x)) else none
  | .float k x, .float k' y =>
    if k = k' then
      match ford k x y with
      | none => some (.float k (nanF k))
      | some .lt => some (.float k y)
      | some .gt => some (.float k x)
      | some .eq => some (.float k (if (k.decode x).neg then y else x))
    else none
  | _, _ => none
def foldV (f : Value → Value → Option Value) : Value → List Value → Option Value
  | x, [] => some x
  | x, y :: l => match f x y with
    | some z => foldV f z l
    | none => none
def buV : ABu → List Value → Option Value
  | .lenS, [.string s] => some (.int .i64 s.size)
  | .len, [.slice _ n _] => some (.int .i64 n)
  | .cap, [.slice _ _ c] => if c < OPEN then some (.int .i64 c) else none
  | .real, [.complex k re _] => some (.float k re)
  | .imag, [.complex k _ im] => some (.float k im)
  | .complex, [.float k re, .float k' im] => if k = k' then some (.complex k re im) else none
  | .min, x :: l => foldV min2V x l
  | .max, x :: l => foldV max2V x l
  | _, _ => none
def findK (kt : ATy) (k : Value) : List (Value × Value × Nat) → Nat → Option (Option (Nat × Value))
  | [], _ => some none
  | (x, v, _) :: es, i => match eqV kt k x with
    | some true => some (some (i, v))
    | some false => findK kt k es (i + 1)
    | none => none
def findKey (kt : ATy) (k : Value) (es : List (Value × Value × Nat)) : Option (Option (Nat × Value)) :=
  match eqV kt k k with
  | some true => findK kt k es 0
  | _ => none
def flatKey : Value → Value → Bool
  | .bool a, .bool b => a == b
  | .int k a, .int k' b => decide (k = k') && a == b
  | .string a, .string b => a.data.toList == b.data.toList
  | _, _ => false
def sameKey : Value → Value → Bool
  | .agg xs, .agg ys => xs.size == ys.size && (xs.toList.zip ys.toList).all fun p => flatKey p.1 p.2
  | x, y => flatKey x y
def bytesOfCells : List Value → Option (List UInt8)
  | [] => some []
  | .int .u8 n :: l => (bytesOfCells l).map (UInt8.ofNat n.toNat :: ·)
  | _ => none
def halfC (sz g len : Nat) : Nat := if g = len then OPEN + sz else OPEN * (g + 2) + sz
def slV (sz : Nat) (x : Value) (lo hi mx : Option Value) : Option Value :=
  match x with
  | .slice a len cap =>
    if cap < OPEN then
      match bounds len cap lo hi mx with
      | some (l, h, m) => some (.slice (if m = l then a else a.map (·.add (l * sz))) (h - l) (m - l))
      | none => none
    else if cap = OPEN + sz ∧ sz < OPEN then
      match mx with
      | none => match bounds len len lo hi none with
        | some (l, h, _) => some (.slice (a.map (·.add (l * sz))) (h - l) (halfC sz (len - l) (h - l)))
        | none => none
      | some _ => match bounds len len lo hi mx with
        | some (l, h, m) => if 0 < len ∧ len < OPEN then some (.slice (if m = l then a else a.map (·.add (l * sz))) (h - l) (m - l)) else none
        | none => none
    else if 2 * OPEN ≤ cap ∧ cap % OPEN = sz ∧ len ≤ cap / OPEN - 2 then
      match mx with
      | none => match bounds len (cap / OPEN - 2) lo hi none with
        | some (l, h, _) => some (.slice (a.map (·.add (l * sz))) (h - l) (halfC sz (cap / OPEN - 2 - l) (h - l)))
        | none => none
      | some _ => none
    else none
  | _ => none
def pureV (fr : F) : AOp → Option Value
  | .move x => some (evO fr x)
  | .pick c a b => match evO fr c with
    | .bool t => some (if t then evO fr a else evO fr b)
    | _ => none
  | .bin op x y => binV op (evO fr x) (evO fr y)
  | .eq neg t x y => (eqV t (evO fr x) (evO fr y)).map fun b => .bool (if neg then !b else b)
  | .un op x => unV op (evO fr x)
  | .conv c x => convV c (evO fr x)
  | .nilCheck x => match evO fr x with
    | .pointer (some a) => some (.pointer (some a))
    | .func (.func f) a b => some (.func (.func f) a b)
    | _ => none
  | .extract x i => match evO fr x with
    | .tuple vs => vs.toList[i]?
    | _ => none
  | .field off n x => match evO fr x with
    | .agg cs => partV cs.toList off n
    | _ => none
  | .fieldAddr off x => match evO fr x with
    | .pointer (some a) => some (.pointer (some (a.add off)))
    | _ => none
  | .addrArr len sz x i => match evO fr x, idxV (evO fr i) len with
    | .pointer (some a), some j => some (.pointer (some (a.add (j * sz))))
    | _, _ => none
  | .addrSl sz x i => match evO fr x with
    | .slice (some a) len _ => match idxV (evO fr i) len with
      | some j => some (.pointer (some (a.add (j * sz))))
      | none => none
    | _ => none
  | .idxArr len sz agg x i => match evO fr x with
    | .agg cs => match idxV (evO fr i) len with
      | some j => partV cs.toList (j * sz) (if agg then some sz else none)
      | none => none
    | _ => none
  | .idxStr x i => match evO fr x, evO fr i with
    | .string s, .int _ n => if 0 ≤ n then (s.data.toList[n.toNat]?).map fun b => .int .u8 b.toNat else none
    | _, _ => none
  | .slStr x lo hi => match evO fr x with
    | .string s => match bounds s.size s.size (lo.map (evO fr)) (hi.map (evO fr)) none with
      | some (l, h, _) => some (.string (s.extract l h))
      | none => none
    | _ => none
  | .slSl sz x lo hi mx => slV sz (evO fr x) (lo.map (evO fr)) (hi.map (evO fr)) (mx.map (evO fr))
  | .slArr n sz x lo hi mx => match evO fr x with
    | .pointer (some a) => match bounds n n (lo.map (evO fr)) (hi.map (evO fr)) (mx.map (evO fr)) with
      | some (l, h, m) => some (.slice (some (if m = l then a else a.add (l * sz))) (h - l) (m - l))
      | none => none
    | _ => none
  | .build zero parts => (fillL zero (parts.map fun p => (p.1, p.2.1, evO fr p.2.2))).map fun cs => .agg cs.toArray
  | .mkFunc fn first captured => some (.func fn (first.map (evO fr)).toArray (captured.map (evO fr)).toArray)
  | .mkIface t x => some (.iface t (evO fr x))
  | .bu b xs => buV b (xs.map (evO fr))
  | _ => none
def readV (fr : F) (s : AS H) : AOp → Option Value
  | .load n a => loadV s n (evO fr a)
  | .text x => match evO fr x with
    | .slice none _ _ => some (.string .empty)
    | .slice (some a) len _ => match cellsAt s a len with
      | some cs => (bytesOfCells cs).map fun l => .string ⟨l.toArray⟩
      | none => none
    | _ => none
  | .lookup kt zero ok m k =>
    match evO fr m with
    | .map none => match findKey kt (evO fr k) [] with
      | some none => some (if ok then .tuple #[zero, .bool false] else zero)
      | _ => none
    | .map (some r) => match Store.get s.h r with
      | some (.map es _) => match findKey kt (evO fr k) es with
        | some (some (_, v)) => some (if ok then .tuple #[v, .bool true] else v)
        | some none => some (if ok then .tuple #[zero, .bool false] else zero)
        | none => none
      | _ => none
    | _ => none
  | .lenMap m => match evO fr m with
    | .map none => some (.int .i64 0)
    | .map (some r) => match Store.get s.h r with
      | some (.map es _) => some (.int .i64 es.length)
      | _ => none
    | _ => none
  | _ => none
def newV (fr : F) (id : Nat) : AOp → Option (Value × ABlk)
  | .alloc _ zero => some (.pointer (some ⟨id, 0, none⟩), .cells zero false)
  | .box _ x => some (.pointer (some ⟨id, 0, none⟩), .cells (evO fr x).cells.toList false)
  | .buildSlice _ sz zero len parts =>
    (fillL (repZ zero len) (parts.map fun p => (p.1 * sz, sz, evO fr p.2))).map fun cs => (.slice (some ⟨id, 0, none⟩) len len, .cells cs false)
  | .makeSlice _ bytes _ zero l c =>
    match evO fr l, evO fr c with
    | .int _ l, .int _ c =>
      if 0 ≤ l ∧ l ≤ c ∧ c < 4611686018427387904 ∧ bytes * c.toNat ≤ 281474976710656 then
        some (.slice (some ⟨id, 0, none⟩) l.toNat c.toNat, .cells (repZ zero c.toNat) false)
      else none
    | _, _ => none
  | .makeMap => some (.map (some id), .map [] 0)
  | _ => none
def cellsOfSl (s : AS H) (sz : Nat) : Value → Option (List Value)
  | .slice none _ _ => some []
  | .slice (some a) len _ => cellsAt s a (len * sz)
  | _ => none
def strCells (b : ByteArray) : List Value := b.data.toList.map fun x => .int .u8 x.toNat
def srcCells (s : AS H) (sz : Nat) : Value → Option (Nat × List Value)
  | .slice none _ _ => some (0, [])
  | .slice (some a) len _ => (cellsAt s a (len * sz)).map fun cs => (len, cs)
  | .string b => if sz = 1 then some (b.size, strCells b) else none
  | _ => none
def appendV (s : AS H) (bytes sz : Nat) (sv xv : Value) : Option (Value × AS H) :=
  match sv, srcCells s sz xv with
  | .slice base len cap, some (n, new) =>
    if n = 0 then (if OPEN ≤ cap ∨ len ≤ cap then some (sv, s) else none)
    else if cap < OPEN ∧ len + n ≤ cap then
      match base with
      | some a => (putCells s (a.add (len * sz)) new).map fun s' => (.slice base (len + n) cap, s')
      | none => none
    else if 0 < sz ∧ sz < OPEN ∧ 0 < bytes ∧ bytes ≤ 1048576 ∧ (len + n) * bytes ≤ 140737488355328 ∧ new.all oneCell = true then
      match cellsOfSl s sz sv with
      | some old =>
        if cap < OPEN then some (.slice (some ⟨s.nxt, 0, none⟩) (len + n) (OPEN + sz), newAt s (.cells (old ++ new) true))
        else if cap = OPEN + sz then
          match base with
          | some a => match Store.get s.h a.block with
            | some (.cells cs true) =>
              if a.off + len * sz = cs.length then
                some (.slice (some ⟨s.nxt, 0, none⟩) (len + n) (OPEN + sz), { h := Store.put (Store.put s.h a.block none) s.nxt (some (.cells (old ++ new) true)), nxt := s.nxt + 1 })
              else none
            | _ => none
          | none => none
        else none
      | none => none
    else none
  | _, _ => none
def copyV (s : AS H) (sz : Nat) (d x : Value) : Option (Value × AS H) :=
  match d, srcCells s sz x with
  | .slice base len _, some (n, cs) =>
    let m := Nat.min n len
    match base with
    | some a => (putCells s a (cs.take (m * sz))).map fun s' => (.int .i64 m, s')
    | none => some (.int .i64 0, s)
  | _, _ => none
def fabs (b : Nat) : Nat := if fisNaN .f64 b then nanF .f64 else b % 9223372036854775808
def extV : Nat → List Value → Option Value
  | 0, [.float .f64 b] => if fknown .f64 b then some (.int .u64 b) else none
  | 1, [.int .u64 n] => if 0 ≤ n ∧ n < 18446744073709551616 then some (.float .f64 n.toNat) else none
  | 2, [.float .f64 b] =>
    match FloatKind.f64.decode b with
    | .nan _ _ => some (.float .f64 (nanF .f64))
    | d => some (.float .f64 (FloatKind.f64.encode (d.integral .down)))
  | 3, [.float .f64 b] =>
    match FloatKind.f64.decode b with
    | .nan _ _ => some (.float .f64 (nanF .f64))
    | d => some (.float .f64 (FloatKind.f64.encode (d.integral .zero)))
  | 4, [.float .f64 b] => some (.float .f64 (fres .f64 (FloatKind.f64.format.sqrt b)))
  | 5, [.float .f64 b] => some (.float .f64 (fabs b))
  | _, _ => none
abbrev CallF (H : Type) := FuncId → List Value → AS H → Option (Value × AS H)
def strishV (s : AS H) : Value → Option (Value × AS H)
  | .slice (some a) len cap => match Store.get s.h a.block with
    | some (.cells cs o) => if a.spot.isSome ∨ OPEN ≤ cap then none else
      some (.slice (some ⟨s.nxt, a.off, none⟩) len cap, { h := Store.put (Store.put s.h a.block none) s.nxt (some (.cells cs o)), nxt := s.nxt + 1 })
    | _ => none
  | _ => none
def actV (cf : CallF H) (fr : F) (s : AS H) : AOp → Option (Value × AS H)
  | .store n a x => match evO fr a with
    | .pointer (some p) =>
      if (evO fr x).cells.size = n then (putCells s p (evO fr x).cells.toList).map fun s' => (undefV, s') else none
    | _ => none
  | .mapPut kt m k x => match evO fr m with
    | .map (some r) => match Store.get s.h r with
      | some (.map es ck) => match findKey kt (evO fr k) es with
        | some (some (i, _)) => match es[i]? with
          | some e0 => if sameKey (evO fr k) e0.1 then some (undefV, { s with h := Store.put s.h r (some (.map (es.set i (evO fr k, evO fr x, e0.2.2)) ck)) }) else none
          | none => none
        | some none => some (undefV, { s with h := Store.put s.h r (some (.map (es ++ [(evO fr k, evO fr x, ck)]) (ck + 1))) })
        | none => none
      | _ => none
    | _ => none
  | .mapDel kt m k => match evO fr m with
    | .map none => match findKey kt (evO fr k) [] with
      | some none => some (undefV, s)
      | _ => none
    | .map (some r) => match Store.get s.h r with
      | some (.map es ck) => match findKey kt (evO fr k) es with
        | some (some (i, _)) => some (undefV, { s with h := Store.put s.h r (some (.map (es.eraseIdx i) ck)) })
        | some none => some (undefV, s)
        | none => none
      | _ => none
    | _ => none
  | .append _ bytes sz _ sv x => appendV s bytes sz (evO fr sv) (evO fr x)
  | .copy sz d x => copyV s sz (evO fr d) (evO fr x)
  | .bytes _ x => match evO fr x with
    | .string b => if b.size ≤ 140737488355328 then some (.slice (some ⟨s.nxt, 0, none⟩) b.size (OPEN + 1), newAt s (.cells (strCells b) true)) else none
    | _ => none
  | .strish x => strishV s (evO fr x)
  | .ext e _ xs => (extV e (xs.map (evO fr))).map fun v => (v, s)
  | .call f xs => match evO fr f with
    | .func (.func g) first captured => cf g (first.toList ++ xs.map (evO fr) ++ captured.toList) s
    | _ => none
  | _ => none
inductive Kind where
  | pur | rd | new | act
  deriving DecidableEq
def AOp.kind : AOp → Kind
  | .load .. | .text .. | .lookup .. | .lenMap .. => .rd
  | .alloc .. | .box .. | .buildSlice .. | .makeSlice .. | .makeMap => .new
  | .store .. | .mapPut .. | .mapDel .. | .append .. | .copy .. | .bytes .. | .strish .. | .ext .. | .call .. => .act
  | _ => .pur
def stepV (cf : CallF H) (fr : F) (s : AS H) (op : AOp) : Option (Value × AS H) :=
  match op.kind with
  | .pur => (pureV fr op).map fun v => (v, s)
  | .rd => (readV fr s op).map fun v => (v, s)
  | .new => (newV fr s.nxt op).map fun vb => (vb.1, newAt s vb.2)
  | .act => actV cf fr s op
def wantV (fr : F) : Option (Tmp × Bool) → Bool
  | none => true
  | some (t, b) => match geT fr t with
    | .bool c => c == b
    | _ => false
def evOps (cf : CallF H) : List AOper → F → AS H → Option (F × AS H)
  | [], fr, s => some (fr, s)
  | o :: l, fr, s =>
    if wantV fr o.guard then
      match stepV cf fr s o.op with
      | some (v, s') => evOps cf l (puT fr o.dst v) s'
      | none => none
    else evOps cf l (puT fr o.dst undefV) s
structure Watch (F : Type) where
  i : Nat
  fr : F
  op : AOp
  v : Value
structure DState (F H : Type) where
  fr : F
  s : AS H
  hist : List (AS H)
  acts : List Nat
  flt : List (Nat × Nat × ABlk)
  nid : Nat
  watch : List (Watch F)
def beqV : Value → Value → Bool
  | .bool a, .bool b => a == b
  | .int k a, .int k' b => k = k' && a == b
  | .float k a, .float k' b => k = k' && a == b
  | .complex k a b, .complex k' c d => k = k' && a == c && b == d
  | .string a, .string b => a.data.toList == b.data.toList
  | .pointer a, .pointer b => a == b
  | .slice a n c, .slice b m d => a == b && n == m && c == d
  | .map a, .map b => a == b
  | .nilFunc, .nilFunc => true
  | .nilIface, .nilIface => true
  | _, _ => false
def sameV : Value → Value → Bool
  | .agg xs, .agg ys => xs.size == ys.size && (xs.toList.zip ys.toList).all fun p => beqV p.1 p.2
  | .tuple xs, .tuple ys => xs.size == ys.size && (xs.toList.zip ys.toList).all fun p => beqV p.1 p.2
  | x, y => beqV x y
def stillV (s : AS H) (w : Watch F) : Bool :=
  match readV w.fr s w.op with
  | some v => sameV v w.v
  | none => false
def pastOk (fr : F) (op : AOp) (v : Value) (pre : Nat) : List Nat → List (AS H) → Bool
  | a :: as, s :: ss => if pre.testBit a then true else stillV s ⟨0, fr, op, v⟩ && pastOk fr op v pre as ss
  | _, _ => true
def joinF (pre : Nat) : List (Nat × Nat × ABlk) → H → H × List (Nat × Nat × ABlk)
  | [], h => (h, [])
  | (i, id, b) :: l, h =>
    let r := joinF pre l h
    if pre.testBit i then (Store.put r.1 id (some b), r.2) else (r.1, (i, id, b) :: r.2)
def joinAll : List (Nat × Nat × ABlk) → H → H
  | [], h => h
  | (_, id, b) :: l, h => Store.put (joinAll l h) id (some b)
def countNew : List DOper → Nat
  | [] => 0
  | d :: l => (if d.o.op.kind = .new then 1 else 0) + countNew l
def preHead (pre : Nat) : List Nat → Bool
  | a :: _ => pre.testBit a
  | [] => true
def stepD (cf : CallF H) (o : DOper) (i : Nat) (d : DState F H) : Option (DState F H) :=
  match o.o.op.kind with
  | .pur =>
    if wantV d.fr o.o.guard then
      match pureV d.fr o.o.op with
      | some v => some { d with fr := puT d.fr o.o.dst v }
      | none => none
    else some { d with fr := puT d.fr o.o.dst undefV }
  | .rd =>
    if wantV d.fr o.o.guard then
      match readV d.fr d.s o.o.op with
      | some v =>
        if pastOk d.fr o.o.op v o.pre d.acts d.hist then
          some { d with fr := puT d.fr o.o.dst v, watch := ⟨i, d.fr, o.o.op, v⟩ :: d.watch }
        else none
      | none => none
    else some { d with fr := puT d.fr o.o.dst undefV }
  | .new =>
    if wantV d.fr o.o.guard then
      match newV d.fr d.nid o.o.op with
      | some (v, b) => some { d with fr := puT d.fr o.o.dst v, flt := (i, d.nid, b) :: d.flt, nid := d.nid + 1 }
      | none => none
    else some { d with fr := puT d.fr o.o.dst undefV, nid := d.nid + 1 }
  | .act =>
    if preHead o.pre d.acts then
      let j := joinF o.pre d.flt d.s.h
      match (if wantV d.fr o.o.guard then actV cf d.fr { d.s with h := j.1 } o.o.op else some (undefV, { d.s with h := j.1 })) with
      | some (v, s') =>
        if d.watch.all fun w => o.pre.testBit w.i || stillV s' w then
          some { d with fr := puT d.fr o.o.dst v, s := s', hist := d.s :: d.hist, acts := i :: d.acts, flt := j.2,
                        watch := d.watch.filter fun w => !o.pre.testBit w.i }
        else none
      | none => none
    else none
def evD (cf : CallF H) : List DOper → Nat → DState F H → Option (DState F H)
  | [], _, d => some d
  | o :: l, i, d => match stepD cf o i d with
    | some d' => evD cf l (i + 1) d'
    | none => none
def evDraw (cf : CallF H) (l : List DOper) (fr : F) (s : AS H) : Option (F × AS H) :=
  match evD cf l 0 { fr, s := { s with nxt := s.nxt + countNew l }, hist := [], acts := [], flt := [], nid := s.nxt, watch := [] } with
  | some d => some (d.fr, { d.s with h := joinAll d.flt d.s.h })
  | none => none
inductive AExit where
  | normal
  | exit (id : Nat)
  | ret
def iter (f : F → AS H → Option (AExit × F × AS H)) : Nat → F → AS H → Option (AExit × F × AS H)
  | 0, _, _ => none
  | n + 1, fr, s => match f fr s with
    | some (.normal, fr', s') => iter f n fr' s'
    | r => r
def evC (cf : CallF H) (n : Nat) : ACode → F → AS H → Option (AExit × F × AS H)
  | .skip, fr, s => some (.normal, fr, s)
  | .ops l, fr, s => match evOps cf l fr s with
    | some (fr', s') => some (.normal, fr', s')
    | none => none
  | .draw l, fr, s => match evDraw cf l fr s with
    | some (fr', s') => some (.normal, fr', s')
    | none => none
  | .seq a b, fr, s => match evC cf n a fr s with
    | some (.normal, fr', s') => evC cf n b fr' s'
    | r => r
  | .cond c t e, fr, s => match evO fr c with
    | .bool true => evC cf n t fr s
    | .bool false => evC cf n e fr s
    | _ => none
  | .block id b, fr, s => match evC cf n b fr s with
    | some (.exit k, fr', s') => if k = id then some (.normal, fr', s') else some (.exit k, fr', s')
    | r => r
  | .loop b, fr, s => iter (evC cf n b) n fr s
  | .exit id, fr, s => some (.exit id, fr, s)
  | .ret, fr, s => some (.ret, fr, s)
def resV (fr : F) (s : AS H) : ARes → Option Value
  | .tmp t => some (geT fr t)
  | .cell a n => loadV s n (geT fr a)
def resVs (fr : F) (s : AS H) : List ARes → Option (List Value)
  | [] => some []
  | r :: l => match resV fr s r, resVs fr s l with
    | some v, some vs => some (v :: vs)
    | _, _ => none
def packV : List Value → Value
  | [v] => v
  | vs => .tuple vs.toArray
def frameOf : List Value → Nat → F → F
  | [], _, fr => fr
  | v :: l, i, fr => frameOf l (i + 1) (Store.put fr i (some v))
def evCall (F : Type) [Store F Value] (fns : FuncId → Option AFn) : Nat → FuncId → List Value → AS H → Option (Value × AS H)
  | 0, _, _, _ => none
  | n + 1, f, args, s => match fns f with
    | none => none
    | some fn =>
      if args.length ≤ fn.ntmps then
        match evC (evCall F fns n) n fn.body (frameOf args 0 (Store.emp : F)) s with
        | some (.exit _, _, _) => none
        | some (_, fr', s') => (resVs fr' s' fn.results).map fun vs => (packV vs, s')
        | none => none
      else none
end eval
end Go.Vam
