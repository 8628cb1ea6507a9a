/- Rules for operations, one by one; frames, values, memory. -/
import Derived.Test.YtkfcejhebepdkaaWp1
namespace Go.Vam
open Go

variable {X : Ctx} {d : Option Tmp} {l : List AOper} {fr : Fr} {s : Mm} {Q : Fr → Mm → Prop}

/-! ## Frames -/

theorem geT_put {fr : Fr} {d t : Tmp} {v : Value} : geT (puT fr (some d) v) t = if t = d then v else geT fr t := by
  show ((if t = d then some v else fr.f t)).getD undefV = _
  split <;> rfl

theorem puT_none {fr : Fr} {v : Value} : puT fr none v = fr := rfl
theorem frame_nil {i : Nat} : frameOf [] i fr = fr := rfl
theorem frame_cons {v : Value} {vs : List Value} {i : Nat} : frameOf (v :: vs) i fr = frameOf vs (i + 1) (puT fr (some i) v) := rfl
theorem evO_tmp {t : Tmp} : evO fr (.tmp t) = geT fr t := rfl
theorem evO_const {v : Value} : evO fr (.const v) = v := rfl
theorem evO_func {f : FuncId} : evO fr (.func f) = .func (.func f) #[] #[] := rfl
theorem want_t {t : Tmp} {b : Bool} {c : Bool} (h : geT fr t = .bool c) : wantV fr (some (t, b)) = (c == b) := by simp only [wantV, h]

def wantB (v : Value) (b : Bool) : Bool := match v with
  | .bool c => c == b
  | _ => false
theorem want_v {t : Tmp} {b : Bool} : wantV fr (some (t, b)) = wantB (geT fr t) b := rfl
theorem wantB_t {c : Bool} : wantB (.bool c) true = c := by cases c <;> rfl
theorem wantB_f {c : Bool} : wantB (.bool c) false = !c := by cases c <;> rfl

theorem keep_nil {fr1 fr' : Fr} {P : Prop} : Keep [] fr1 fr' P = P := rfl
theorem keep_cons {t : Tmp} {L : List Nat} {fr1 fr' : Fr} {P : Prop} : Keep (t :: L) fr1 fr' P = (geT fr1 t = geT fr' t → Keep L fr1 fr' P) := rfl
theorem keepK_eq {L : List Nat} {Q : Fr → Mm → Prop} {fr : Fr} {s : Mm} : KeepK L Q fr s = ∀ fr1 : Fr, Keep L fr1 fr (Q fr1 s) := rfl

/-! ## Plain operations -/

def pickV : Value → Value → Value → Option Value
  | .bool t, a, b => some (if t = true then a else b)
  | _, _, _ => none
def nilCheckV : Value → Option Value
  | .pointer (some a) => some (.pointer (some a))
  | .func (.func f) a b => some (.func (.func f) a b)
  | _ => none
def extractV : Value → Nat → Option Value
  | .tuple vs, i => vs.toList[i]?
  | _, _ => none
def fieldV (off : Nat) (n : Option Nat) : Value → Option Value
  | .agg cs => partV cs.toList off n
  | _ => none
def fieldAddrV (off : Nat) : Value → Option Value
  | .pointer (some a) => some (.pointer (some (a.add off)))
  | _ => none
def addrArrV (len sz : Nat) (x i : Value) : Option Value := match x, idxV i len with
  | .pointer (some a), some j => some (.pointer (some (a.add (j * sz))))
  | _, _ => none
def addrSlV (sz : Nat) (x i : Value) : Option Value := match x with
  | .slice (some a) len _ => match idxV i len with
    | some j => some (.pointer (some (a.add (j * sz))))
    | none => none
  | _ => none
def idxArrV (len sz : Nat) (agg : Bool) (x i : Value) : Option Value := match x with
  | .agg cs => match idxV i len with
    | some j => partV cs.toList (j * sz) (if agg then some sz else none)
    | none => none
  | _ => none
def idxStrV (x i : Value) : Option Value := match x, i with
  | .string s, .int _ n => if 0 ≤ n then (s.data.toList[n.toNat]?).map fun b => .int .u8 b.toNat else none
  | _, _ => none
def slStrV (x : Value) (lo hi : Option Value) : Option Value := match x with
  | .string s => match bounds s.size s.size lo hi none with
    | some (l, h, _) => some (.string (s.extract l h))
    | none => none
  | _ => none
def slArrV (n sz : Nat) (x : Value) (lo hi mx : Option Value) : Option Value := match x with
  | .pointer (some a) => match bounds n n lo hi mx with
    | some (l, h, m) => some (.slice (some (if m = l then a else a.add (l * sz))) (h - l) (m - l))
    | none => none
  | _ => none
def eqBV (neg : Bool) (t : ATy) (x y : Value) : Option Value := (eqV t x y).map fun b => .bool (if neg then !b else b)
def buildV (zero : List Value) (ps : List (Nat × Nat × Value)) : Option Value := (fillL zero ps).map fun cs => .agg cs.toArray
def textV (s : Mm) : Value → Option Value
  | .slice none _ _ => some (.string .empty)
  | .slice (some a) len _ => match cellsAt s a len with
    | some cs => (bytesOfCells cs).map fun l => .string ⟨l.toArray⟩
    | none => none
  | _ => none
def storeV (s : Mm) (n : Nat) (a x : Value) : Option (Value × Mm) := match a with
  | .pointer (some p) => if x.cells.size = n then (putCells s p x.cells.toList).map fun s' => (undefV, s') else none
  | _ => none
def buildSlV (s : Mm) (_sz : Nat) (zero : List Value) (len : Nat) (ps : List (Nat × Nat × Value)) : Option (Value × ABlk) :=
  (fillL (repZ zero len) ps).map fun cs => (.slice (some ⟨s.nxt, 0, none⟩) len len, .cells cs false)
def makeSlV (s : Mm) (bytes : Nat) (zero : List Value) (l c : Value) : Option (Value × ABlk) := match l, c with
  | .int _ l, .int _ c =>
    if 0 ≤ l ∧ l ≤ c ∧ c < 4611686018427387904 ∧ bytes * c.toNat ≤ 281474976710656 then
      some (.slice (some ⟨s.nxt, 0, none⟩) l.toNat c.toNat, .cells (repZ zero c.toNat) false)
    else none
  | _, _ => none

theorem WO_move {x : Operand} : WO X (⟨.move x, d, none⟩ :: l) fr s Q = WO X l (puT fr d (evO fr x)) s Q := by rw [WO_pure rfl]; exact PureK_some
theorem WO_pick {c a b : Operand} : WO X (⟨.pick c a b, d, none⟩ :: l) fr s Q = PureK X (pickV (evO fr c) (evO fr a) (evO fr b)) d l fr s Q := by
  rw [WO_pure rfl]; congr 1; simp only [pureV]; split <;> rename_i h
  · rw [h]; rfl
  · unfold pickV; split <;> first | rfl | (rename_i h'; exact absurd h' (h _))
theorem WO_bin {op : BinOp} {x y : Operand} : WO X (⟨.bin op x y, d, none⟩ :: l) fr s Q = PureK X (binV op (evO fr x) (evO fr y)) d l fr s Q := WO_pure rfl
theorem WO_eq {neg : Bool} {t : ATy} {x y : Operand} : WO X (⟨.eq neg t x y, d, none⟩ :: l) fr s Q = PureK X (eqBV neg t (evO fr x) (evO fr y)) d l fr s Q := WO_pure rfl
theorem WO_un {op : UnOp} {x : Operand} : WO X (⟨.un op x, d, none⟩ :: l) fr s Q = PureK X (unV op (evO fr x)) d l fr s Q := WO_pure rfl
theorem WO_conv {c : ConvK} {x : Operand} : WO X (⟨.conv c x, d, none⟩ :: l) fr s Q = PureK X (convV c (evO fr x)) d l fr s Q := WO_pure rfl
theorem WO_nilCheck {x : Operand} : WO X (⟨.nilCheck x, d, none⟩ :: l) fr s Q = PureK X (nilCheckV (evO fr x)) d l fr s Q := WO_pure rfl
theorem WO_extract {x : Operand} {i : Nat} : WO X (⟨.extract x i, d, none⟩ :: l) fr s Q = PureK X (extractV (evO fr x) i) d l fr s Q := by
  rw [WO_pure rfl]; congr 1
  simp only [pureV]
  cases evO fr x <;> rfl
theorem WO_field {off : Nat} {n : Option Nat} {x : Operand} : WO X (⟨.field off n x, d, none⟩ :: l) fr s Q = PureK X (fieldV off n (evO fr x)) d l fr s Q := WO_pure rfl
theorem WO_fieldAddr {off : Nat} {x : Operand} : WO X (⟨.fieldAddr off x, d, none⟩ :: l) fr s Q = PureK X (fieldAddrV off (evO fr x)) d l fr s Q := WO_pure rfl
theorem WO_addrArr {len sz : Nat} {x i : Operand} : WO X (⟨.addrArr len sz x i, d, none⟩ :: l) fr s Q = PureK X (addrArrV len sz (evO fr x) (evO fr i)) d l fr s Q := WO_pure rfl
theorem WO_addrSl {sz : Nat} {x i : Operand} : WO X (⟨.addrSl sz x i, d, none⟩ :: l) fr s Q = PureK X (addrSlV sz (evO fr x) (evO fr i)) d l fr s Q := WO_pure rfl
theorem WO_idxArr {len sz : Nat} {agg : Bool} {x i : Operand} : WO X (⟨.idxArr len sz agg x i, d, none⟩ :: l) fr s Q = PureK X (idxArrV len sz agg (evO fr x) (evO fr i)) d l fr s Q := WO_pure rfl
theorem WO_idxStr {x i : Operand} : WO X (⟨.idxStr x i, d, none⟩ :: l) fr s Q = PureK X (idxStrV (evO fr x) (evO fr i)) d l fr s Q := WO_pure rfl
theorem WO_slStr {x : Operand} {lo hi : Option Operand} : WO X (⟨.slStr x lo hi, d, none⟩ :: l) fr s Q = PureK X (slStrV (evO fr x) (lo.map (evO fr)) (hi.map (evO fr))) d l fr s Q := WO_pure rfl
theorem WO_slSl {sz : Nat} {x : Operand} {lo hi mx : Option Operand} : WO X (⟨.slSl sz x lo hi mx, d, none⟩ :: l) fr s Q = PureK X (slV sz (evO fr x) (lo.map (evO fr)) (hi.map (evO fr)) (mx.map (evO fr))) d l fr s Q := WO_pure rfl
theorem WO_slArr {n sz : Nat} {x : Operand} {lo hi mx : Option Operand} : WO X (⟨.slArr n sz x lo hi mx, d, none⟩ :: l) fr s Q = PureK X (slArrV n sz (evO fr x) (lo.map (evO fr)) (hi.map (evO fr)) (mx.map (evO fr))) d l fr s Q := WO_pure rfl
theorem WO_build {z : List Value} {ps : List (Nat × Nat × Operand)} : WO X (⟨.build z ps, d, none⟩ :: l) fr s Q = PureK X (buildV z (ps.map fun p => (p.1, p.2.1, evO fr p.2.2))) d l fr s Q := WO_pure rfl
theorem WO_mkFunc {fn : Fn} {a b : List Operand} : WO X (⟨.mkFunc fn a b, d, none⟩ :: l) fr s Q = WO X l (puT fr d (.func fn (a.map (evO fr)).toArray (b.map (evO fr)).toArray)) s Q := by rw [WO_pure rfl]; exact PureK_some
theorem WO_mkIface {t : TypeId} {x : Operand} : WO X (⟨.mkIface t x, d, none⟩ :: l) fr s Q = WO X l (puT fr d (.iface t (evO fr x))) s Q := by rw [WO_pure rfl]; exact PureK_some
theorem WO_bu {b : ABu} {xs : List Operand} : WO X (⟨.bu b xs, d, none⟩ :: l) fr s Q = PureK X (buV b (xs.map (evO fr))) d l fr s Q := WO_pure rfl
theorem WO_load {n : Option Nat} {a : Operand} : WO X (⟨.load n a, d, none⟩ :: l) fr s Q = PureK X (loadV s n (evO fr a)) d l fr s Q := WO_read rfl
theorem WO_text {x : Operand} : WO X (⟨.text x, d, none⟩ :: l) fr s Q = PureK X (textV s (evO fr x)) d l fr s Q := WO_read rfl
theorem WO_alloc {e : TypeId} {z : List Value} : WO X (⟨.alloc e z, d, none⟩ :: l) fr s Q = WO X l (puT fr d (.pointer (some ⟨s.nxt, 0, none⟩))) (newAt s (.cells z false)) Q := by rw [WO_new rfl]; exact NewK_some
theorem WO_box {e : TypeId} {x : Operand} : WO X (⟨.box e x, d, none⟩ :: l) fr s Q = WO X l (puT fr d (.pointer (some ⟨s.nxt, 0, none⟩))) (newAt s (.cells (evO fr x).cells.toList false)) Q := by rw [WO_new rfl]; exact NewK_some
theorem WO_buildSlice {e : TypeId} {sz : Nat} {z : List Value} {len : Nat} {ps : List (Nat × Operand)} : WO X (⟨.buildSlice e sz z len ps, d, none⟩ :: l) fr s Q = NewK X (buildSlV s sz z len (ps.map fun p => (p.1 * sz, sz, evO fr p.2))) d l fr s Q := WO_new rfl
theorem WO_makeSlice {e : TypeId} {bytes sz : Nat} {z : List Value} {a c : Operand} : WO X (⟨.makeSlice e bytes sz z a c, d, none⟩ :: l) fr s Q = NewK X (makeSlV s bytes z (evO fr a) (evO fr c)) d l fr s Q := WO_new rfl
theorem WO_store {n : Nat} {a x : Operand} : WO X (⟨.store n a x, d, none⟩ :: l) fr s Q = MemK X (storeV s n (evO fr a) (evO fr x)) d l fr Q := WO_step rfl
theorem WO_append {e : TypeId} {bytes sz : Nat} {z : List Value} {a x : Operand} : WO X (⟨.append e bytes sz z a x, d, none⟩ :: l) fr s Q = MemK X (appendV s bytes sz (evO fr a) (evO fr x)) d l fr Q := WO_step rfl
theorem WO_copy {sz : Nat} {a x : Operand} : WO X (⟨.copy sz a x, d, none⟩ :: l) fr s Q = MemK X (copyV s sz (evO fr a) (evO fr x)) d l fr Q := WO_step rfl
theorem WO_strish {x : Operand} : WO X (⟨.strish x, d, none⟩ :: l) fr s Q = MemK X (strishV s (evO fr x)) d l fr Q := WO_step rfl
theorem WO_ext {e : Nat} {f : FuncId} {xs : List Operand} : WO X (⟨.ext e f xs, d, none⟩ :: l) fr s Q = PureK X (extV e (xs.map (evO fr))) d l fr s Q := by
  rw [WO_step rfl]
  apply propext
  constructor
  · rintro ⟨v, s', h, g⟩
    obtain ⟨v', h1, h2⟩ := Option.map_eq_some_iff.1 h
    cases h2
    exact ⟨v, h1, g⟩
  · rintro ⟨v, h, g⟩
    refine ⟨v, s, ?_, g⟩
    show (extV e (xs.map (evO fr))).map (fun v => (v, s)) = _
    rw [h]; rfl

/-! ## Values -/

theorem pick_b {t : Bool} {a b : Value} : pickV (.bool t) a b = some (if t = true then a else b) := rfl
theorem nilCheck_p {a : Addr} : nilCheckV (.pointer (some a)) = some (.pointer (some a)) := rfl
theorem ext_20 {a b : Value} : extractV (.tuple #[a, b]) 0 = some a := rfl
theorem ext_21 {a b : Value} : extractV (.tuple #[a, b]) 1 = some b := rfl
theorem ext_30 {a b c : Value} : extractV (.tuple #[a, b, c]) 0 = some a := rfl
theorem ext_31 {a b c : Value} : extractV (.tuple #[a, b, c]) 1 = some b := rfl
theorem ext_32 {a b c : Value} : extractV (.tuple #[a, b, c]) 2 = some c := rfl
theorem pack_1 {v : Value} : packV [v] = v := rfl
theorem pack_2 {a b : Value} : packV [a, b] = .tuple #[a, b] := rfl
theorem pack_3 {a b c : Value} : packV [a, b, c] = .tuple #[a, b, c] := rfl
theorem fieldAddr_p {off B o : Nat} : fieldAddrV off (.pointer (some ⟨B, o, none⟩)) = some (.pointer (some ⟨B, o + off, none⟩)) := by
  simp only [fieldAddrV, add_none']

theorem bin_add {k : IntKind} {a b : Int} : binV .add (.int k a) (.int k b) = some (.int k (wrapK k (a + b))) := by simp [binV]
theorem bin_sub {k : IntKind} {a b : Int} : binV .sub (.int k a) (.int k b) = some (.int k (wrapK k (a - b))) := by simp [binV]
theorem bin_mul {k : IntKind} {a b : Int} : binV .mul (.int k a) (.int k b) = some (.int k (wrapK k (a * b))) := by simp [binV]
theorem bin_quo {k : IntKind} {a b : Int} : binV .quo (.int k a) (.int k b) = if b = 0 then none else some (.int k (wrapK k (a.tdiv b))) := by
  by_cases h : b = 0 <;> simp [binV, h]
theorem bin_rem {k : IntKind} {a b : Int} : binV .rem (.int k a) (.int k b) = if b = 0 then none else some (.int k (a.tmod b)) := by
  by_cases h : b = 0 <;> simp [binV, h]
theorem bin_and {k : IntKind} {a b : Int} : binV .and (.int k a) (.int k b) = (intBitsV .and k a b).map (.int k) := by simp [binV]
theorem bin_or {k : IntKind} {a b : Int} : binV .or (.int k a) (.int k b) = (intBitsV .or k a b).map (.int k) := by simp [binV]
theorem bin_xor {k : IntKind} {a b : Int} : binV .xor (.int k a) (.int k b) = (intBitsV .xor k a b).map (.int k) := by simp [binV]
theorem bin_shl {k k' : IntKind} {a b : Int} : binV .shl (.int k a) (.int k' b) = (shiftV .shl k a b).map (.int k) := rfl
theorem bin_shr {k k' : IntKind} {a b : Int} : binV .shr (.int k a) (.int k' b) = (shiftV .shr k a b).map (.int k) := rfl
theorem bin_eql {k : IntKind} {a b : Int} : binV .eql (.int k a) (.int k b) = some (.bool (decide (a = b))) := by
  simp [binV]; rw [Bool.eq_iff_iff]; simp
theorem bin_neq {k : IntKind} {a b : Int} : binV .neq (.int k a) (.int k b) = some (.bool (!decide (a = b))) := by
  simp [binV, bne]; rw [Bool.eq_iff_iff]; simp
theorem bin_lss {k : IntKind} {a b : Int} : binV .lss (.int k a) (.int k b) = some (.bool (decide (a < b))) := by simp [binV]
theorem bin_leq {k : IntKind} {a b : Int} : binV .leq (.int k a) (.int k b) = some (.bool (decide (a ≤ b))) := by simp [binV]
theorem bin_gtr {k : IntKind} {a b : Int} : binV .gtr (.int k a) (.int k b) = some (.bool (decide (b < a))) := by simp [binV]
theorem bin_geq {k : IntKind} {a b : Int} : binV .geq (.int k a) (.int k b) = some (.bool (decide (b ≤ a))) := by simp [binV]
theorem binf_add {k : FloatKind} {a b : Nat} : binV .add (.float k a) (.float k b) = some (.float k (fadd k a b)) := by simp [binV]
theorem binf_sub {k : FloatKind} {a b : Nat} : binV .sub (.float k a) (.float k b) = some (.float k (fsub k a b)) := by simp [binV]
theorem binf_mul {k : FloatKind} {a b : Nat} : binV .mul (.float k a) (.float k b) = some (.float k (fmul k a b)) := by simp [binV]
theorem binf_quo {k : FloatKind} {a b : Nat} : binV .quo (.float k a) (.float k b) = some (.float k (fdiv k a b)) := by simp [binV]
theorem binf_eql {k : FloatKind} {a b : Nat} : binV .eql (.float k a) (.float k b) = some (.bool (ford k a b == some .eq)) := by simp [binV]
theorem binf_neq {k : FloatKind} {a b : Nat} : binV .neq (.float k a) (.float k b) = some (.bool (!(ford k a b == some .eq))) := by simp [binV, bne]
theorem binf_lss {k : FloatKind} {a b : Nat} : binV .lss (.float k a) (.float k b) = some (.bool (ford k a b == some .lt)) := by simp [binV]
theorem binf_leq {k : FloatKind} {a b : Nat} : binV .leq (.float k a) (.float k b) = some (.bool (ford k a b == some .lt || ford k a b == some .eq)) := by simp [binV]
theorem binf_gtr {k : FloatKind} {a b : Nat} : binV .gtr (.float k a) (.float k b) = some (.bool (ford k a b == some .gt)) := by simp [binV]
theorem binf_geq {k : FloatKind} {a b : Nat} : binV .geq (.float k a) (.float k b) = some (.bool (ford k a b == some .gt || ford k a b == some .eq)) := by simp [binV]
theorem bins_eql {a b : ByteArray} : binV .eql (.string a) (.string b) = some (.bool (a.toList == b.toList)) := rfl
theorem bins_neq {a b : ByteArray} : binV .neq (.string a) (.string b) = some (.bool (!(a.toList == b.toList))) := rfl
theorem un_not {b : Bool} : unV .not (.bool b) = some (.bool !b) := rfl
theorem un_neg {k : IntKind} {n : Int} : unV .neg (.int k n) = some (.int k (wrapK k (0 - n))) := rfl
theorem unf_neg {k : FloatKind} {b : Nat} : unV .neg (.float k b) = some (.float k (fneg k b)) := rfl
theorem conv_int {k k' : IntKind} {n : Int} : convV (.toInt k) (.int k' n) = some (.int k (wrapK k n)) := rfl
theorem conv_float {k : FloatKind} {k' : IntKind} {n : Int} : convV (.toFloat k) (.int k' n) = some (.float k (k.nearest n)) := rfl
theorem conv_same {b : ByteArray} : convV .same (.string b) = some (.string b) := rfl
theorem bu_lenS {b : ByteArray} : buV .lenS [.string b] = some (.int .i64 b.size) := rfl
theorem bu_len {a : Option Addr} {n c : Nat} : buV .len [.slice a n c] = some (.int .i64 n) := rfl
theorem bu_real {k : FloatKind} {a b : Nat} : buV .real [.complex k a b] = some (.float k a) := rfl
theorem bu_imag {k : FloatKind} {a b : Nat} : buV .imag [.complex k a b] = some (.float k b) := rfl
theorem bu_complex {k : FloatKind} {a b : Nat} : buV .complex [.float k a, .float k b] = some (.complex k a b) := by simp [buV]
theorem bu_min {k : IntKind} {a b : Int} : buV .min [.int k a, .int k b] = some (.int k (if b < a then b else a)) := by simp [buV, foldV, min2V]
theorem bu_max {k : IntKind} {a b : Int} : buV .max [.int k a, .int k b] = some (.int k (if b > a then b else a)) := by simp [buV, foldV, max2V]
theorem ptr_nil {neg : Bool} : eqBV neg .ptr (.pointer none) (.pointer none) = some (.bool (if neg then false else true)) := by cases neg <;> rfl
theorem ptr_some {neg : Bool} {a : Addr} : eqBV neg .ptr (.pointer (some a)) (.pointer none) = some (.bool (if neg then true else false)) := by cases neg <;> rfl

theorem wrap_i64 {n : Int} (h1 : -9223372036854775808 ≤ n) (h2 : n ≤ 9223372036854775807) : wrapK .i64 n = n := by
  rw [wrapK_eq]; simp [IntKind.wrap, IntKind.bits, IntKind.signed]; omega
theorem wrap_u64 {n : Int} (h1 : 0 ≤ n) (h2 : n ≤ 18446744073709551615) : wrapK .u64 n = n := by simp only [wrapK]; omega
theorem wrap_u32 {n : Int} (h1 : 0 ≤ n) (h2 : n ≤ 4294967295) : wrapK .u32 n = n := by simp only [wrapK]; omega
theorem wrap_u16 {n : Int} (h1 : 0 ≤ n) (h2 : n ≤ 65535) : wrapK .u16 n = n := by simp only [wrapK]; omega
theorem wrap_u8 {n : Int} (h1 : 0 ≤ n) (h2 : n ≤ 255) : wrapK .u8 n = n := by simp only [wrapK]; omega
theorem wrap_i16 {n : Int} (h1 : -32768 ≤ n) (h2 : n ≤ 32767) : wrapK .i16 n = n := by simp only [wrapK]; split <;> omega

/-! ## Memory -/

def blk (s : Mm) (B : Nat) : Option (List Value) := match Store.get s.h B with
  | some (.cells cs _) => some cs
  | some (.ro cs) => some cs
  | _ => none

theorem blk_cells {B : Nat} {cs : List Value} {o : Bool} (h : Store.get s.h B = some (.cells cs o)) : blk s B = some cs := by simp only [blk, h]
theorem blk_ro {B : Nat} {cs : List Value} (h : Store.get s.h B = some (.ro cs)) : blk s B = some cs := by simp only [blk, h]
theorem get_new {B : Nat} {b : ABlk} : Store.get (newAt s b).h B = if B = s.nxt then some b else Store.get s.h B := rfl
theorem nxt_new {b : ABlk} : (newAt s b).nxt = s.nxt + 1 := rfl
theorem blk_new_self {cs : List Value} {o : Bool} : blk (newAt s (.cells cs o)) s.nxt = some cs := by simp only [blk, get_new, if_true]
theorem blk_new {B : Nat} {b : ABlk} (h : B ≠ s.nxt) : blk (newAt s b) B = blk s B := by simp only [blk, get_new, if_neg h]

def setBlk (s : Mm) (B : Nat) (b : ABlk) : Mm := { s with h := Store.put s.h B (some b) }
theorem get_set {B B' : Nat} {b : ABlk} : Store.get (setBlk s B b).h B' = if B' = B then some b else Store.get s.h B' := rfl
theorem nxt_set {B : Nat} {b : ABlk} : (setBlk s B b).nxt = s.nxt := rfl
theorem blk_set {B B' : Nat} {b : ABlk} (h : B' ≠ B) : blk (setBlk s B b) B' = blk s B' := by simp only [blk, get_set, if_neg h]

theorem load_1 {B o : Nat} : loadV s none (.pointer (some ⟨B, o, none⟩)) = (blk s B).bind fun cs => cs[o]? := by
  simp only [loadV, cellAt, blk]
  split
  · rename_i h; rw [h]; rfl
  · rename_i h; rw [h]; rfl
  · split <;> first | rfl | simp_all
theorem load_n {n B o : Nat} : loadV s (some n) (.pointer (some ⟨B, o, none⟩)) = (blk s B).bind fun cs => if o + n ≤ cs.length then some (.agg ((cs.drop o).take n).toArray) else none := by
  simp only [loadV, cellsAt, blk]
  split
  · rename_i h; rw [h]; simp
  · rename_i h; rw [h]; simp
  · split <;> first | rfl | simp_all

/-- The cells of a slice that may be read. -/
inductive SlC (s : Mm) (sz : Nat) : Value → Nat → List Value → Prop
  | nil : SlC s sz (.slice none 0 0) 0 []
  | mk {B o n cap : Nat} {all cs : List Value} (h : blk s B = some all) (hB : B < s.nxt) (hc : cs = (all.drop o).take (n * sz)) (ho : o + n * sz ≤ all.length)
      (hcap : (n ≤ cap ∧ cap < OPEN) ∨ cap = OPEN + sz) : SlC s sz (.slice (some ⟨B, o, none⟩) n cap) n cs

/-- The place of a slice's cell. -/
def elP (v : Value) (off : Nat) : Value := match v with
  | .slice (some a) _ _ => .pointer (some (a.add off))
  | _ => undefV

theorem SlC.length {sz n : Nat} {v : Value} {cs : List Value} (h : SlC s sz v n cs) : cs.length = n * sz := by
  cases h with
  | nil => simp
  | mk h hB hc ho => subst hc; simp; omega

theorem SlC.len {sz n : Nat} {v : Value} {cs : List Value} (h : SlC s sz v n cs) : buV .len [v] = some (.int .i64 n) := by cases h <;> rfl

theorem SlC.addr {sz n : Nat} {v : Value} {cs : List Value} (h : SlC s sz v n cs) {kk : IntKind} {i : Int} {k : Nat} (hi : i = k) (hk : k < n) : addrSlV sz v (.int kk i) = some (elP v (k * sz)) := by
  cases h with
  | nil => omega
  | mk h hB hc ho =>
    subst hi
    simp only [addrSlV, idxV]
    rw [if_pos ⟨by omega, by omega⟩]
    simp [elP]

theorem SlC.load {sz n : Nat} {v : Value} {cs : List Value} (h : SlC s sz v n cs) {j : Nat} {c : Value} (hj : cs[j]? = some c) : loadV s none (elP v j) = some c := by
  cases h with
  | nil => simp at hj
  | mk h hB hc ho =>
    subst hc
    simp only [elP, add_none', load_1, h, Option.bind_some]
    rw [List.getElem?_take] at hj
    split at hj
    · rw [List.getElem?_drop] at hj; exact hj
    · cases hj

theorem SlC.loads {sz n m : Nat} {v : Value} {cs : List Value} (h : SlC s sz v n cs) {j : Nat} (hj : j + m ≤ n * sz) (hn : 0 < n) : loadV s (some m) (elP v j) = some (.agg ((cs.drop j).take m).toArray) := by
  cases h with
  | nil => omega
  | mk h hB hc ho =>
    subst hc
    simp only [elP, add_none', load_n, h, Option.bind_some]
    rw [if_pos (by omega)]
    congr 3
    rw [List.drop_take, List.take_take, List.drop_drop, Nat.min_eq_left (by omega)]

/-- A part of a slice. -/
def subS (sz : Nat) (v : Value) (l h : Nat) : Value := (slV sz v (some (.int .i64 l)) (some (.int .i64 h)) none).getD undefV

theorem bnd_int {kk : IntKind} {i : Int} {k y : Nat} (hi : i = k) (hk : k ≤ y) : bndV (.int kk i) y = some k := by
  subst hi; simp only [bndV]; rw [if_pos ⟨by omega, by omega⟩]; simp

theorem bounds_lh {len cap l h : Nat} (hh : h ≤ cap) (hl : l ≤ h) : bounds len cap (some (.int .i64 l)) (some (.int .i64 h)) none = some (l, h, cap) := by
  have h1 := bnd_int (kk := .i64) (i := (h : Int)) rfl hh
  have h2 := bnd_int (kk := .i64) (i := (l : Int)) rfl hl
  delta bounds
  simp only [h1, h2]

theorem SlC.sub' {sz n : Nat} {v : Value} {cs : List Value} (hs : SlC s sz v n cs) {l h : Nat} (hl : l ≤ h) (hh : h ≤ n) :
    slV sz v (some (.int .i64 l)) (some (.int .i64 h)) none = some (subS sz v l h) ∧ SlC s sz (subS sz v l h) (h - l) ((cs.drop (l * sz)).take ((h - l) * sz)) := by
  suffices hx : ∃ u, slV sz v (some (.int .i64 l)) (some (.int .i64 h)) none = some u ∧ SlC s sz u (h - l) ((cs.drop (l * sz)).take ((h - l) * sz)) by
    obtain ⟨u, h1, h2⟩ := hx
    unfold subS
    rw [h1]
    exact ⟨rfl, h2⟩
  cases hs with
  | nil =>
    have : h = 0 := by omega
    have : l = 0 := by omega
    subst_vars
    exact ⟨.slice none 0 0, by simp only [slV, bounds_lh (Nat.le_refl _) (Nat.le_refl _), OPEN]; simp, by simpa using SlC.nil⟩
  | @mk B o n cap all cs hb hB hc ho hcap =>
    subst hc
    have hmul : h * sz = l * sz + (h - l) * sz := by rw [← Nat.add_mul]; congr 1; omega
    have hmul2 : h * sz ≤ n * sz := Nat.mul_le_mul_right _ hh
    have hcells : ((all.drop o |>.take (n * sz)).drop (l * sz)).take ((h - l) * sz) = (all.drop (o + l * sz)).take ((h - l) * sz) := by
      rw [List.drop_take, List.take_take, List.drop_drop, Nat.min_eq_left (by omega)]
    rcases hcap with ⟨h1, h2⟩ | h1
    · simp only [slV, if_pos h2, bounds_lh (show h ≤ cap by omega) hl]
      by_cases e : cap = l
      · rw [if_pos e]
        have e1 : h - l = 0 := by omega
        refine ⟨_, rfl, ?_⟩
        refine SlC.mk hb hB ?_ (by rw [e1]; omega) (.inl ⟨by omega, by omega⟩)
        rw [hcells, e1]; simp
      · rw [if_neg e]
        simp only [Option.map_some, add_none']
        exact ⟨_, rfl, .mk hb hB hcells (by omega) (.inl ⟨by omega, by omega⟩)⟩
    · subst h1
      have h2 : ¬ (OPEN + sz < OPEN) := by omega
      simp only [slV, if_neg h2, if_true, bounds_lh hh hl, Option.map_some, add_none']
      exact ⟨_, rfl, .mk hb hB hcells (by omega) (.inr rfl)⟩

theorem SlC.sub {sz n : Nat} {v : Value} {cs : List Value} (hs : SlC s sz v n cs) {l h : Nat} (hl : l ≤ h) (hh : h ≤ n) : SlC s sz (subS sz v l h) (h - l) ((cs.drop (l * sz)).take ((h - l) * sz)) := (hs.sub' hl hh).2

theorem bounds_kk {len cap l h : Nat} {k1 k2 : IntKind} {i j : Int} (hi : i = l) (hj : j = h) : bounds len cap (some (.int k1 i)) (some (.int k2 j)) none = bounds len cap (some (.int .i64 l)) (some (.int .i64 h)) none := by
  subst hi; subst hj; rfl

theorem bounds_lo0 {len cap h : Nat} {k2 : IntKind} {j : Int} (hj : j = h) : bounds len cap none (some (.int k2 j)) none = bounds len cap (some (.int .i64 (0 : Nat))) (some (.int .i64 h)) none := by
  subst hj; delta bounds; simp [bndV]

theorem bounds_hi {len cap l : Nat} {k1 : IntKind} {i : Int} (hi : i = l) (hc : len ≤ cap) : bounds len cap (some (.int k1 i)) none none = bounds len cap (some (.int .i64 l)) (some (.int .i64 len)) none := by
  subst hi
  have h1 := bnd_int (kk := .i64) (i := (len : Int)) rfl hc
  delta bounds
  simp only [h1]
  rfl

theorem SlC.sl {sz n : Nat} {v : Value} {cs : List Value} (hs : SlC s sz v n cs) {l h : Nat} {k1 k2 : IntKind} {i j : Int} (hi : i = l) (hj : j = h) (hl : l ≤ h) (hh : h ≤ n) : slV sz v (some (.int k1 i)) (some (.int k2 j)) none = some (subS sz v l h) := by
  rw [← (hs.sub' hl hh).1]
  cases hs <;> simp only [slV, bounds_kk hi hj]

theorem SlC.sl0 {sz n : Nat} {v : Value} {cs : List Value} (hs : SlC s sz v n cs) {h : Nat} {k2 : IntKind} {j : Int} (hj : j = h) (hh : h ≤ n) : slV sz v none (some (.int k2 j)) none = some (subS sz v 0 h) := by
  rw [← (hs.sub' (Nat.zero_le _) hh).1]
  cases hs <;> simp only [slV, bounds_lo0 hj]

theorem SlC.slE {sz n : Nat} {v : Value} {cs : List Value} (hs : SlC s sz v n cs) {l : Nat} {k1 : IntKind} {i : Int} (hi : i = l) (hl : l ≤ n) : slV sz v (some (.int k1 i)) none none = some (subS sz v l n) := by
  rw [← (hs.sub' hl (Nat.le_refl _)).1]
  cases hs with
  | nil => simp only [slV, bounds_hi hi (Nat.le_refl _)]
  | mk h hB hc ho hcap =>
    rcases hcap with ⟨h1, h2⟩ | h1
    · simp only [slV, if_pos h2, bounds_hi hi h1]
    · subst h1
      have h2 : ¬ (OPEN + sz < OPEN) := by omega
      simp only [slV, if_neg h2, bounds_hi hi (Nat.le_refl _)]

/-- Nothing is turned but what may be. -/
structure Same (s s' : Mm) (F : Nat → Prop) : Prop where
  nxt : s.nxt ≤ s'.nxt
  get : ∀ B, B < s.nxt → ¬ F B → Store.get s'.h B = Store.get s.h B

theorem Same.refl (s : Mm) (F : Nat → Prop) : Same s s F := ⟨Nat.le_refl _, fun _ _ _ => rfl⟩
theorem Same.trans {s s1 s2 : Mm} {F F' G : Nat → Prop} (h : Same s s1 F) (g : Same s1 s2 F') (h1 : ∀ B, B < s.nxt → F B → G B) (h2 : ∀ B, B < s.nxt → F' B → G B) : Same s s2 G :=
  ⟨Nat.le_trans h.nxt g.nxt, fun B hB hG => by rw [g.get B (Nat.lt_of_lt_of_le hB h.nxt) (fun hx => hG (h2 B hB hx)), h.get B hB (fun hx => hG (h1 B hB hx))]⟩
theorem Same.blk {s s' : Mm} {F : Nat → Prop} (h : Same s s' F) {B : Nat} (hB : B < s.nxt) (hF : ¬ F B) : blk s' B = Vam.blk s B := by simp only [Vam.blk, h.get B hB hF]
theorem Same.new {s : Mm} {b : ABlk} {F : Nat → Prop} : Same s (newAt s b) F := ⟨Nat.le_succ _, fun B hB _ => by rw [get_new, if_neg (by omega)]⟩
theorem Same.set {s : Mm} {B : Nat} {b : ABlk} {F : Nat → Prop} (h : F B) : Same s (setBlk s B b) F := ⟨Nat.le_refl _, fun B' _ hF => by rw [get_set, if_neg (fun e => hF (by rw [e]; exact h))]⟩

/-- The block that a value names. -/
def footV : Value → Nat → Prop
  | .slice (some a) _ _, b => b = a.block
  | .pointer (some a), b => b = a.block
  | _, _ => False

theorem SlC.same {s s' : Mm} {F : Nat → Prop} {sz n : Nat} {v : Value} {cs : List Value} (h : SlC s sz v n cs) (g : Same s s' F) (hF : ∀ b, footV v b → ¬ F b) : SlC s' sz v n cs := by
  cases h with
  | nil => exact .nil
  | mk h hB hc ho hcap => exact .mk (by rw [g.blk hB (hF _ rfl)]; exact h) (Nat.lt_of_lt_of_le hB g.nxt) hc ho hcap

theorem SlC.foot {sz n : Nat} {v : Value} {cs : List Value} (h : SlC s sz v n cs) : ∀ b, footV v b → b < s.nxt := by
  cases h with
  | nil => intro b hb; exact hb.elim
  | mk h hB hc ho hcap => intro b hb; simp only [footV] at hb; omega

theorem subS_foot {sz n : Nat} {v : Value} {cs : List Value} (hs : SlC s sz v n cs) {l h : Nat} (hl : l ≤ h) (hh : h ≤ n) : ∀ b, footV (subS sz v l h) b → footV v b := by
  have h0 := (hs.sub' hl hh).1
  intro b hb
  cases hs with
  | nil =>
    have : h = 0 := by omega
    have : l = 0 := by omega
    subst_vars
    have e : subS sz (.slice none 0 0) 0 0 = .slice none 0 0 := by simp only [subS, slV, bounds_lh (Nat.le_refl _) (Nat.le_refl _), OPEN]; simp
    rw [e] at hb
    exact hb
  | @mk B o n cap all cs hb' hB hc ho hcap =>
    rcases hcap with ⟨h1, h2⟩ | h1
    · simp only [subS, slV, if_pos h2, bounds_lh (show h ≤ cap by omega) hl] at hb
      split at hb <;> simpa [footV, add_none'] using hb
    · subst h1
      have h2 : ¬ (OPEN + sz < OPEN) := by omega
      simp only [subS, slV, if_neg h2, if_true, bounds_lh hh hl, Option.map_some, add_none'] at hb
      simpa [footV] using hb

end Go.Vam
