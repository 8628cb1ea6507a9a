/- From the kit's code of a function to the abstract machine's. -/
import Derived.Test.YtpphomoijlilfaaVam1
namespace Go.Vam
open Go
def aggB (d : TypeDesc) : Bool := match d with
  | .struct _ | .array _ _ => true
  | _ => false
def partN (P : Program) (t : TypeId) : Option (Option Nat) :=
  match P.underlying t, P.info? t with
  | some d, some i => if aggB d then some (some i.size) else some none
  | _, _ => none
def atyOf (P : Program) : Nat → TypeId → Option ATy
  | 0, _ => none
  | n + 1, t => match P.underlying t with
    | some .bool => some .bool
    | some (.int _) => some .int
    | some (.float _) => some .float
    | some (.complex _) => some .complex
    | some .string => some .str
    | some (.pointer _) => some .ptr
    | some (.slice _) => some .slice
    | some (.map _ _) => some .map
    | some (.func ..) => some .func
    | some (.struct fs) =>
      if P.stoodInHeld t then none else
      (fs.toList.mapM fun f => if f.name = "_" then none else match partN P f.type, atyOf P n f.type with
        | some m, some a => some (f.offset, m, a)
        | _, _ => none).map .struct
    | _ => none
mutual
def constOk : Value → Bool
  | .bool _ | .int .. | .string _ | .nilFunc | .nilIface | .float .. | .complex .. | .pointer none | .map none => true
  | .slice none 0 0 => true
  | .agg cs => constOkA cs
  | .tuple cs => constOkA cs
  | _ => false
def constOkA : Array Value → Bool
  | ⟨l⟩ => constOkL l
def constOkL : List Value → Bool
  | [] => true
  | v :: l => constOk v && constOkL l
end
def oprOk (nt : Nat) : Operand → Bool
  | .tmp t => t < nt
  | .const v => constOk v
  | .func _ => true
  | .global _ => false
def zeroOf (P : Program) (t : TypeId) : Option (List Value) :=
  match P.info? t with
  | some i => match i.zero with
    | some z => if z.cells.size = i.size ∧ constOk z then some z.cells.toList else none
    | none => none
  | none => none
def sizeT (P : Program) (t : TypeId) : Option Nat := (P.info? t).map (·.size)
def bytesT (P : Program) (t : TypeId) : Option Nat := (P.info? t).map (·.bytes)
def extName : String → Option Nat
  | "math.Float64bits" => some 0
  | "math.Float64frombits" => some 1
  | "math.archFloor" => some 2
  | "math.archTrunc" => some 3
  | "math.sqrt" => some 4
  | "math.Abs" => some 5
  | _ => none
def placesOf (P : Program) (fields : Array Field) : List (Nat × Operand) → Option (List (Nat × Nat × Operand))
  | [] => some []
  | (i, x) :: l => match fields[i]? with
    | some f => match sizeT P f.type, placesOf P fields l with
      | some n, some r => some ((f.offset, n, x) :: r)
      | _, _ => none
    | none => none
def compCall (P : Program) (c : Call) : Option AOp :=
  match c.callee with
  | .value f => match f with
    | .func g => match P.funcs[g]? with
      | some fn => match extName fn.name with
        | some e => some (.ext e g c.args.toList)
        | none => if fn.body.isNone then none else some (.call f c.args.toList)
      | none => none
    | _ => some (.call f c.args.toList)
  | .builtin b =>
    match b with
    | .append => match c.argTypes.toList, c.args.toList with
      | [st, xt], [s, x] => match P.underlying st, P.underlying xt with
        | some (.slice e), some dx => match dx with
          | .int _ => none
          | _ => match P.info? e, zeroOf P e with
            | some i, some z => some (.append e i.bytes i.size z s x)
            | _, _ => none
        | _, _ => none
      | _, _ => none
    | .len => match c.argTypes.toList, c.args.toList with
      | [xt], [x] => match P.underlying xt with
        | some .string => some (.bu .lenS [x])
        | some (.slice _) => some (.bu .len [x])
        | some (.map ..) => some (.lenMap x)
        | some (.array n _) => some (.move (.const (.int .i64 n)))
        | some (.pointer a) => match P.underlying a with
          | some (.array n _) => some (.move (.const (.int .i64 n)))
          | _ => none
        | _ => none
      | _, _ => none
    | .cap => match c.argTypes.toList, c.args.toList with
      | [xt], [x] => match P.underlying xt with
        | some (.slice _) => some (.bu .cap [x])
        | _ => none
      | _, _ => none
    | .copy => match c.argTypes.toList, c.args.toList with
      | [dt, _], [d, s] => match P.underlying dt with
        | some (.slice e) => (sizeT P e).map fun sz => .copy sz d s
        | _ => none
      | _, _ => none
    | .delete => match c.argTypes.toList, c.args.toList with
      | [mt, _], [m, k] => match P.underlying mt with
        | some (.map kt _) => (atyOf P 10 kt).map fun a => .mapDel a m k
        | _ => none
      | _, _ => none
    | .real => match c.args.toList with
      | [x] => some (.bu .real [x])
      | _ => none
    | .imag => match c.args.toList with
      | [x] => some (.bu .imag [x])
      | _ => none
    | .complex => match c.args.toList with
      | [x, y] => some (.bu .complex [x, y])
      | _ => none
    | .min => some (.bu .min c.args.toList)
    | .max => some (.bu .max c.args.toList)
    | _ => none
  | .invoke .. => none
def plainTy (d : TypeDesc) : Bool := match d with
  | .int _ | .float _ | .complex _ | .string => true
  | _ => false
def compOp (P : Program) (o : Oper) : Option AOp :=
  match o.op with
  | .move x | .assign x => some (.move x)
  | .pick c a b => some (.pick c a b)
  | .alloc e => (zeroOf P e).map (.alloc e)
  | .box e x => some (.box e x)
  | .build t parts => match P.underlying t, zeroOf P t with
    | some (.struct fields), some z => if fields.toList.all (fun f => (P.info? f.type).isSome) then (placesOf P fields parts.toList).map (.build z) else none
    | some (.array _ e), some z => (sizeT P e).map fun n => .build z (parts.toList.map fun p => (p.1 * n, n, p.2))
    | _, _ => none
  | .buildSlice t len parts => match P.underlying t with
    | some (.slice e) => match sizeT P e, zeroOf P e with
      | some sz, some z => if len * sz ≤ 16777216 ∧ len < OPEN then some (.buildSlice e sz z len parts.toList) else none
      | _, _ => none
    | _ => none
  | .load t a => (partN P t).map fun n => .load n a
  | .store t a x => (sizeT P t).map fun n => .store n a x
  | .nilCheck x => some (.nilCheck x)
  | .binOp op t x y _ =>
    match op with
    | .eql | .neq => match P.underlying t with
      | some d => if plainTy d then some (.bin op x y) else
        match atyOf P 10 t with
        | some a => if P.eqGuardType P.depth t then none else some (.eq (match op with | .neq => true | _ => false) a x y)
        | none => none
      | none => none
    | _ => some (.bin op x y)
  | .unOp op _ x => some (.un op x)
  | .convert src dst x =>
    match P.underlying src, P.underlying dst with
    | some _, some (.int k) => some (.conv (.toInt k) x)
    | some _, some (.float k) => some (.conv (.toFloat k) x)
    | some _, some (.complex k) => some (.conv (.toComplex k) x)
    | some .string, some .string => some (.conv .same x)
    | some .string, some (.slice e) => match P.underlying e with
      | some (.int .u8) => some (.bytes e x)
      | _ => none
    | some (.slice e), some .string => match P.underlying e with
      | some (.int .u8) => some (.text x)
      | _ => none
    | some (.slice _), some (.slice e) => match P.underlying e with
      | some (.int .u8) => if src = dst then some (.strish x) else none
      | _ => none
    | _, _ => none
  | .makeInterface t x => match P.underlying t with
    | some (.interface _) => none
    | some _ => some (.mkIface t x)
    | none => none
  | .makeFunc fn first captured => some (.mkFunc fn first.toList captured.toList)
  | .makeMap _ r => match r with
    | none => some .makeMap
    | some _ => none
  | .makeSlice t l c => match P.underlying t with
    | some (.slice e) => match sizeT P e, bytesT P e, zeroOf P e with
      | some sz, some by_, some z => some (.makeSlice e by_ sz z l c)
      | _, _, _ => none
    | _ => none
  | .slice t x lo hi mx => match P.underlying t with
    | some .string => match mx with
      | none => some (.slStr x lo hi)
      | some _ => none
    | some (.slice e) => (sizeT P e).map fun sz => .slSl sz x lo hi mx
    | some (.array n e) => if n < OPEN then (sizeT P e).map fun sz => .slArr n sz x lo hi mx else none
    | some (.pointer a) => match P.underlying a with
      | some (.array n e) => if n < OPEN then (sizeT P e).map fun sz => .slArr n sz x lo hi mx else none
      | _ => none
    | _ => none
  | .fieldAddr s x f => match P.underlying s with
    | some (.struct fields) => match fields[f]? with
      | some fd => match sizeT P fd.type with
        | some (_ + 1) => some (.fieldAddr fd.offset x)
        | _ => none
      | none => none
    | _ => none
  | .field t x f => match P.underlying t with
    | some (.struct fields) => match fields[f]? with
      | some fd => (partN P fd.type).map fun n => .field fd.offset n x
      | none => none
    | _ => none
  | .indexAddr t x i => match P.underlying t with
    | some (.array len e) => (sizeT P e).map fun sz => .addrArr len sz x i
    | some (.slice e) => (sizeT P e).map fun sz => .addrSl sz x i
    | _ => none
  | .index t x i => match P.underlying t with
    | some (.array len e) => match P.underlying e, sizeT P e with
      | some d, some sz => some (.idxArr len sz (aggB d) x i)
      | _, _ => none
    | some .string => some (.idxStr x i)
    | _ => none
  | .lookup t m k ok => match P.underlying t with
    | some (.map kt e) => match atyOf P 10 kt, P.info? e with
      | some a, some i => match i.zero with
        | some z => if constOk z then some (.lookup a z ok m k) else none
        | none => none
      | _, _ => none
    | _ => none
  | .mapUpdate t m k x => match P.underlying t with
    | some (.map kt _) => (atyOf P 10 kt).map fun a => .mapPut a m k x
    | _ => none
  | .extract t i => some (.extract t i)
  | .call c => compCall P c
  | _ => none
def optOk (nt : Nat) : Option Operand → Bool
  | some x => oprOk nt x
  | none => true
def operOk (nt : Nat) (ops : Array Oper) (o : Oper) : Bool :=
  o.op.operands.all (oprOk nt) && (match o.dst with | some d => d < nt | none => true) &&
  (match o.guard with | some (j, _) => (match (ops[j]?).bind (·.dst) with | some t => decide (t < nt) | none => false) | none => true)
def compO (P : Program) (nt : Nat) (ops : Array Oper) (o : Oper) : Option AOper :=
  if operOk nt ops o then
    (compOp P o).map fun a => { op := a, dst := o.dst, guard := match o.guard with
      | some (j, b) => match (ops[j]?).bind (·.dst) with
        | some t => some (t, b)
        | none => none
      | none => none }
  else none
def compL (P : Program) (nt : Nat) (ops : Array Oper) : List Oper → Option (List AOper)
  | [] => some []
  | o :: l => match compO P nt ops o, compL P nt ops l with
    | some a, some r => some (a :: r)
    | _, _ => none
def tmpsOf (xs : List Operand) : List Tmp := xs.filterMap fun x => match x with
  | .tmp t => some t
  | _ => none
def readsOf (o : Oper) (ao : AOper) : List Tmp := (match ao.guard with | some (t, _) => [t] | none => []) ++ tmpsOf o.op.operands.toList
def bindsAny (e : Edge) : Bool := match e.ground with
  | .textOnly _ | .gcOnly _ => false
  | _ => true
def apartOk (d : DOper) (ds : List Tmp) (i : Nat) : List (Nat × List Tmp × DOper) → Bool
  | [] => true
  | (j, r, e) :: l =>
    (d.pre.testBit j || ((match e.o.dst with | some t => !ds.contains t && d.o.dst != some t | none => true) && (match d.o.dst with | some t => !r.contains t | none => true)))
      && apartOk d ds i l
def drawGo (ops : Array Oper) : List DOper → Nat → List (Nat × List Tmp × DOper) → Bool
  | [], _, _ => true
  | d :: l, i, done =>
    (match ops[i]? with
     | some o =>
       (o.after.toList.all fun e => !bindsAny e || (decide (e.on < i))) &&
       (decide (d.pre < 2 ^ i)) &&
       ((List.range i).all fun j => !d.pre.testBit j ||
         ((o.after.toList.any fun e => bindsAny e && (e.on == j || ((done.find? fun p => p.1 == e.on).map fun p => p.2.2.pre.testBit j).getD false)) &&
          ((done.find? fun p => p.1 == j).map fun p => p.2.2.pre &&& d.pre == p.2.2.pre).getD false)) &&
       ((tmpsOf d.o.op.operands).all fun t => (tmpsOf o.op.operands.toList).contains t) &&
       (match o.op with | .select .. => false | _ => true) &&
       apartOk d (readsOf o d.o) i done &&
       drawGo ops l (i + 1) ((i, readsOf o d.o, d) :: done)
     | none => false)
def compC (P : Program) (nt : Nat) : Code → Option ACode
  | .skip => some .skip
  | .region _ ops d =>
    match compL P nt ops ops.toList with
    | some l => if d then
        let pl := l.zipIdx.map fun p => (⟨p.1, (Region.before ops).getD p.2 0⟩ : DOper)
        if drawGo ops pl 0 [] then some (.draw pl) else none
      else some (.ops l)
    | none => none
  | .seq a b => match compC P nt a, compC P nt b with
    | some x, some y => some (.seq x y)
    | _, _ => none
  | .cond c a b => match compC P nt a, compC P nt b with
    | some x, some y => if oprOk nt c then some (.cond c x y) else none
    | _, _ => none
  | .block id b => (compC P nt b).map (.block id)
  | .loop b => (compC P nt b).map .loop
  | .exit id => some (.exit id)
  | .ret => some .ret
  | _ => none
def compRes (P : Program) (nt : Nat) : List ResultVar → Option (List ARes)
  | [] => some []
  | .tmp t :: l => if t < nt then (compRes P nt l).map (.tmp t :: ·) else none
  | .cell a t :: l => match partN P t, compRes P nt l with
    | some n, some r => if a < nt then some (.cell a n :: r) else none
    | _, _ => none
def compFn (P : Program) (fn : Func) : Option AFn :=
  match fn.body with
  | some c => match compC P fn.ntmps c, compRes P fn.ntmps fn.results.toList with
    | some b, some r => some { ntmps := fn.ntmps, results := r, body := b }
    | _, _ => none
  | none => none
end Go.Vam
