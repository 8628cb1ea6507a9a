/- A store that the kernel goes through faster: its functions are recursors, and numbers are parted by the kernel's own division. -/
import Derived.Test.YtmfaodenkghmkaaGreatVam1
import Derived.Test.YtmfaodenkghmkaaGreatVam26
namespace Go.Vam

inductive Tri (α : Type) where
  | leaf
  | node (v : Option α) (l r : Tri α)

namespace Tri
variable {α : Type}

noncomputable def get (t : Tri α) : Nat → Option α :=
  Tri.rec (motive := fun _ => Nat → Option α) (fun _ => none)
    (fun v _ _ gl gr n => Nat.rec (motive := fun _ => Option α) v (fun m _ => Nat.rec (motive := fun _ => Option α) (gl (Nat.div m 2)) (fun _ _ => gr (Nat.div m 2)) (Nat.mod m 2)) n) t

/-- A path alone. -/
noncomputable def lone (x : Option α) (f : Nat) : Nat → Tri α :=
  Nat.rec (motive := fun _ => Nat → Tri α) (fun _ => .leaf)
    (fun _ ih n => Nat.rec (motive := fun _ => Tri α) (.node x .leaf .leaf) (fun m _ => Nat.rec (motive := fun _ => Tri α) (.node none (ih (Nat.div m 2)) .leaf) (fun _ _ => .node none .leaf (ih (Nat.div m 2))) (Nat.mod m 2)) n) f

noncomputable def set (x : Option α) (t : Tri α) : Nat → Tri α :=
  Tri.rec (motive := fun _ => Nat → Tri α) (fun n => lone x (Nat.succ n) n)
    (fun v l r sl sr n => Nat.rec (motive := fun _ => Tri α) (.node x l r) (fun m _ => Nat.rec (motive := fun _ => Tri α) (.node v (sl (Nat.div m 2)) r) (fun _ _ => .node v l (sr (Nat.div m 2))) (Nat.mod m 2)) n) t

theorem get_leaf (n : Nat) : get (.leaf : Tri α) n = none := rfl
theorem get_node_0 (v : Option α) (l r : Tri α) : get (.node v l r) 0 = v := rfl
theorem rec2 {β : Type} (a b : β) (m : Nat) : (Nat.rec (motive := fun _ => β) a (fun _ _ => b) (Nat.mod m 2) : β) = if m % 2 = 0 then a else b := by
  show (Nat.rec (motive := fun _ => β) a (fun _ _ => b) (m % 2) : β) = _
  rcases Nat.mod_two_eq_zero_or_one m with h | h <;> rw [h] <;> rfl
theorem get_node_s (v : Option α) (l r : Tri α) (m : Nat) : get (.node v l r) (m + 1) = if m % 2 = 0 then l.get (m / 2) else r.get (m / 2) :=
  rec2 (get l (m / 2)) (get r (m / 2)) m
theorem set_node_0 (x v : Option α) (l r : Tri α) : set x (.node v l r) 0 = .node x l r := rfl
theorem set_node_s (x v : Option α) (l r : Tri α) (m : Nat) : set x (.node v l r) (m + 1) = if m % 2 = 0 then .node v (set x l (m / 2)) r else .node v l (set x r (m / 2)) :=
  rec2 (β := Tri α) (Tri.node v (set x l (m / 2)) r) (Tri.node v l (set x r (m / 2))) m
theorem lone_0 (x : Option α) (f : Nat) : lone x (f + 1) 0 = .node x .leaf .leaf := rfl
theorem lone_s (x : Option α) (f m : Nat) : lone x (f + 1) (m + 1) = if m % 2 = 0 then .node none (lone x f (m / 2)) .leaf else .node none .leaf (lone x f (m / 2)) :=
  rec2 (β := Tri α) (Tri.node none (lone x f (m / 2)) Tri.leaf) (Tri.node none Tri.leaf (lone x f (m / 2))) m

theorem get_lone (x : Option α) : ∀ (f n : Nat), n < f → ∀ m, get (lone x f n) m = if m = n then x else none := by
  intro f
  induction f with
  | zero => intro n h; omega
  | succ f ih =>
    intro n hn m
    cases n with
    | zero =>
      rw [lone_0]
      cases m with
      | zero => rw [get_node_0, if_pos rfl]
      | succ m => rw [get_node_s, if_neg (by omega : ¬ m + 1 = 0)]; split <;> rfl
    | succ n =>
      rw [lone_s]
      have hf : n / 2 < f := by omega
      by_cases e : n % 2 = 0
      · rw [if_pos e]
        cases m with
        | zero => rw [get_node_0, if_neg (by omega)]
        | succ m =>
          rw [get_node_s, ih _ hf, get_leaf]
          by_cases c : m = n
          · rw [c, if_pos e, if_pos rfl, if_pos rfl]
          · rw [if_neg (by omega : ¬ m + 1 = n + 1)]
            by_cases d : m % 2 = 0
            · rw [if_pos d, if_neg (by omega)]
            · rw [if_neg d]
      · rw [if_neg e]
        cases m with
        | zero => rw [get_node_0, if_neg (by omega)]
        | succ m =>
          rw [get_node_s, ih _ hf, get_leaf]
          by_cases c : m = n
          · rw [c, if_neg e, if_pos rfl, if_pos rfl]
          · rw [if_neg (by omega : ¬ m + 1 = n + 1)]
            by_cases d : m % 2 = 0
            · rw [if_pos d]
            · rw [if_neg d, if_neg (by omega)]

theorem get_set (x : Option α) (t : Tri α) : ∀ n m, get (set x t n) m = if m = n then x else get t m := by
  induction t with
  | leaf => intro n m; exact get_lone x _ n (Nat.lt_succ_self n) m
  | node v l r ihl ihr =>
    intro n m
    cases n with
    | zero =>
      rw [set_node_0]
      cases m with
      | zero => rw [get_node_0, if_pos rfl]
      | succ m => rw [get_node_s, if_neg (by omega : ¬ m + 1 = 0), get_node_s]
    | succ n =>
      rw [set_node_s]
      by_cases e : n % 2 = 0
      · rw [if_pos e]
        cases m with
        | zero => rw [get_node_0, if_neg (by omega), get_node_0]
        | succ m =>
          rw [get_node_s, get_node_s, ihl]
          by_cases c : m = n
          · rw [c, if_pos e, if_pos rfl, if_pos rfl]
          · rw [if_neg (by omega : ¬ m + 1 = n + 1)]
            by_cases d : m % 2 = 0
            · rw [if_pos d, if_pos d, if_neg (by omega)]
            · rw [if_neg d, if_neg d]
      · rw [if_neg e]
        cases m with
        | zero => rw [get_node_0, if_neg (by omega), get_node_0]
        | succ m =>
          rw [get_node_s, get_node_s, ihr]
          by_cases c : m = n
          · rw [c, if_neg e, if_pos rfl, if_pos rfl]
          · rw [if_neg (by omega : ¬ m + 1 = n + 1)]
            by_cases d : m % 2 = 0
            · rw [if_pos d, if_pos d]
            · rw [if_neg d, if_neg d, if_neg (by omega)]

end Tri

noncomputable instance {α : Type} : Store (Tri α) α where
  get := Tri.get
  put := fun t n x => Tri.set x t n
  emp := .leaf
  get_put := fun t n x m => Tri.get_set x t n m
  get_emp := fun _ => rfl

def none2 : AS (Tri ABlk) := ⟨.leaf, 0⟩

end Go.Vam

/- The evaluator as the kernel goes through it faster: the same answers. (Printed by genk.py.) -/
namespace Go.Vam
open Go

abbrev TF := Tri Value
abbrev KS := AS (Tri ABlk)

noncomputable def getK (t : Tmp) (fr : TF) : Value := Option.rec (motive := fun _ => Value) undefV (fun v => v) (Tri.get fr t)
theorem getK_eq (t : Tmp) (fr : TF) : getK t fr = geT fr t := by
  show _ = Option.getD (Tri.get fr t) undefV
  unfold getK
  cases Tri.get fr t <;> rfl

noncomputable def evK (o : Operand) : TF → Value :=
  Operand.rec (motive := fun _ => TF → Value) (fun t => getK t) (fun v _ => v) (fun g _ => .pointer (some ⟨g, 0, none⟩)) (fun f _ => .func (.func f) #[] #[]) o
theorem evK_eq (o : Operand) (fr : TF) : evK o fr = evO fr o := by
  cases o <;> first | rfl | exact getK_eq _ _

noncomputable def putK (d : Option Tmp) (v : Value) (fr : TF) : TF := Option.rec (motive := fun _ => TF) fr (fun t => Tri.set (some v) fr t) d
theorem putK_eq (d : Option Tmp) (v : Value) (fr : TF) : putK d v fr = puT fr d v := by cases d <;> rfl

/-! ## Plain operations -/

/-- A number not negative, of the widest kind. -/
def natOf : Value → Option Nat
  | .int .i64 (.ofNat a) => some a
  | _ => none
def f64Of : Value → Option Nat
  | .float .f64 a => some a
  | _ => none
theorem natOf_some {v : Value} {a : Nat} (h : natOf v = some a) : v = .int .i64 (.ofNat a) := by
  unfold natOf at h; split at h
  · cases h; rfl
  · cases h
theorem f64Of_some {v : Value} {a : Nat} (h : f64Of v = some a) : v = .float .f64 a := by
  unfold f64Of at h; split at h
  · cases h; rfl
  · cases h

noncomputable def two (of : Value → Option Nat) (f : Nat → Nat → Option Value) (d : Option Value) (x y : Value) : Option Value :=
  Option.rec (motive := fun _ => Option Value) d (fun a => Option.rec (motive := fun _ => Option Value) d (fun b => f a b) (of y)) (of x)
theorem two_eq {of : Value → Option Nat} {f : Nat → Nat → Option Value} {d : Option Value} {x y : Value} (h : ∀ a b, of x = some a → of y = some b → f a b = d) : two of f d x y = d := by
  unfold two
  cases hx : of x with
  | none => rfl
  | some a => cases hy : of y with
    | none => rfl
    | some b => exact h a b hx hy

/-- a number if it is small enough, else something else -/
noncomputable def small (d : Option Value) (n : Nat) : Option Value :=
  Bool.rec (motive := fun _ => Option Value) d (some (.int .i64 (.ofNat n))) (Nat.ble n 9223372036854775807)
theorem small_eq {d : Option Value} {n : Nat} (h : n ≤ 9223372036854775807 → some (.int .i64 (.ofNat n)) = d) : small d n = d := by
  unfold small
  cases hb : Nat.ble n 9223372036854775807 with
  | false => rfl
  | true => exact h (Nat.le_of_ble_eq_true hb)
theorem wrap_nat {n : Nat} (h : n ≤ 9223372036854775807) : wrapK .i64 (n : Int) = n := by
  show (if (9223372036854775808 : Int) ≤ (n : Int) % 18446744073709551616 then _ else (n : Int) % 18446744073709551616) = _
  rw [Int.emod_eq_of_lt (by omega) (by omega), if_neg (by omega)]

noncomputable def addK (x y : Value) : Option Value :=
  two natOf (fun a b => small (binV .add x y) (Nat.add a b)) (two f64Of (fun a b => some (.float .f64 (fadd .f64 a b))) (binV .add x y) x y) x y
noncomputable def mulK (x y : Value) : Option Value :=
  two natOf (fun a b => small (binV .mul x y) (Nat.mul a b)) (two f64Of (fun a b => some (.float .f64 (fmul .f64 a b))) (binV .mul x y) x y) x y
noncomputable def subK (x y : Value) : Option Value := two f64Of (fun a b => some (.float .f64 (fsub .f64 a b))) (binV .sub x y) x y
noncomputable def lssK (x y : Value) : Option Value := two natOf (fun a b => some (.bool (Nat.ble (Nat.succ a) b))) (binV .lss x y) x y
noncomputable def leqK (x y : Value) : Option Value := two natOf (fun a b => some (.bool (Nat.ble a b))) (binV .leq x y) x y
noncomputable def gtrK (x y : Value) : Option Value := two natOf (fun a b => some (.bool (Nat.ble (Nat.succ b) a))) (binV .gtr x y) x y
noncomputable def geqK (x y : Value) : Option Value := two natOf (fun a b => some (.bool (Nat.ble b a))) (binV .geq x y) x y
noncomputable def eqlK (x y : Value) : Option Value := two natOf (fun a b => some (.bool (Nat.beq a b))) (binV .eql x y) x y

theorem addK_eq (x y : Value) : addK x y = binV .add x y := by
  have hf : two f64Of (fun a b => some (.float .f64 (fadd .f64 a b))) (binV .add x y) x y = binV .add x y :=
    two_eq fun a b hx hy => by rw [f64Of_some hx, f64Of_some hy]; rfl
  unfold addK
  rw [hf]
  refine two_eq fun a b hx hy => small_eq fun h => ?_
  rw [natOf_some hx, natOf_some hy]
  show _ = some (Value.int .i64 (wrapK .i64 ((a : Int) + (b : Int))))
  rw [← Int.natCast_add]
  exact congrArg (fun n => some (Value.int .i64 n)) (wrap_nat h).symm
theorem mulK_eq (x y : Value) : mulK x y = binV .mul x y := by
  have hf : two f64Of (fun a b => some (.float .f64 (fmul .f64 a b))) (binV .mul x y) x y = binV .mul x y :=
    two_eq fun a b hx hy => by rw [f64Of_some hx, f64Of_some hy]; rfl
  unfold mulK
  rw [hf]
  refine two_eq fun a b hx hy => small_eq fun h => ?_
  rw [natOf_some hx, natOf_some hy]
  show _ = some (Value.int .i64 (wrapK .i64 ((a : Int) * (b : Int))))
  rw [← Int.natCast_mul]
  exact congrArg (fun n => some (Value.int .i64 n)) (wrap_nat h).symm
theorem subK_eq (x y : Value) : subK x y = binV .sub x y := two_eq fun a b hx hy => by rw [f64Of_some hx, f64Of_some hy]; rfl
theorem ble_dec (a b : Nat) : Nat.ble a b = decide (a ≤ b) := by
  cases h : Nat.ble a b with
  | true => exact (decide_eq_true (Nat.le_of_ble_eq_true h)).symm
  | false => exact (decide_eq_false fun hh => by rw [Nat.ble_eq_true_of_le hh] at h; cases h).symm
theorem lssK_eq (x y : Value) : lssK x y = binV .lss x y := two_eq fun a b hx hy => by
  rw [natOf_some hx, natOf_some hy]
  show some (Value.bool _) = some (Value.bool (decide ((a : Int) < (b : Int))))
  rw [ble_dec]; simp only [Int.ofNat_lt, Nat.succ_le_iff]
theorem leqK_eq (x y : Value) : leqK x y = binV .leq x y := two_eq fun a b hx hy => by
  rw [natOf_some hx, natOf_some hy]
  show some (Value.bool _) = some (Value.bool (decide ((a : Int) ≤ (b : Int))))
  rw [ble_dec]; simp only [Int.ofNat_le]
theorem gtrK_eq (x y : Value) : gtrK x y = binV .gtr x y := two_eq fun a b hx hy => by
  rw [natOf_some hx, natOf_some hy]
  show some (Value.bool _) = some (Value.bool (decide ((a : Int) > (b : Int))))
  rw [ble_dec]; simp only [Int.ofNat_lt, Nat.succ_le_iff, gt_iff_lt]
theorem geqK_eq (x y : Value) : geqK x y = binV .geq x y := two_eq fun a b hx hy => by
  rw [natOf_some hx, natOf_some hy]
  show some (Value.bool _) = some (Value.bool (decide ((a : Int) ≥ (b : Int))))
  rw [ble_dec]; simp only [Int.ofNat_le, ge_iff_le]
theorem eqlK_eq (x y : Value) : eqlK x y = binV .eql x y := two_eq fun a b hx hy => by
  rw [natOf_some hx, natOf_some hy]
  show some (Value.bool _) = some (Value.bool ((Int.ofNat a) == (Int.ofNat b)))
  congr 2
  rw [Bool.eq_iff_iff, Nat.beq_eq, beq_iff_eq]
  exact ⟨fun h => by rw [h], fun h => by injection h⟩

noncomputable def binK (op : BinOp) : Value → Value → Option Value := match op with
  | .add => addK
  | .mul => mulK
  | .sub => subK
  | .lss => lssK
  | .leq => leqK
  | .gtr => gtrK
  | .geq => geqK
  | .eql => eqlK
  | op => binV op
theorem binK_eq (op : BinOp) (x y : Value) : binK op x y = binV op x y := by
  cases op <;> first | rfl | exact addK_eq x y | exact mulK_eq x y | exact subK_eq x y | exact lssK_eq x y | exact leqK_eq x y | exact gtrK_eq x y | exact geqK_eq x y | exact eqlK_eq x y

def extractK (i : Nat) : Value → Option Value
  | .tuple vs => vs.toList[i]?
  | _ => none
theorem extractK_eq (i : Nat) (v : Value) : extractK i v = (match v with
    | .tuple vs => vs.toList[i]?
    | _ => none) := by cases v <;> rfl
def fieldK (off : Nat) (n : Option Nat) : Value → Option Value
  | .agg cs => partV cs.toList off n
  | _ => none
theorem fieldK_eq (off : Nat) (n : Option Nat) (v : Value) : fieldK off n v = (match v with
    | .agg cs => partV cs.toList off n
    | _ => none) := by cases v <;> rfl

noncomputable def idxK (i : Value) (len : Nat) : Option Nat :=
  Option.rec (motive := fun _ => Option Nat) (idxV i len) (fun a => Bool.rec (motive := fun _ => Option Nat) (idxV i len) (some a) (Nat.ble (Nat.succ a) len)) (natOf i)
theorem idxK_eq (i : Value) (len : Nat) : idxK i len = idxV i len := by
  unfold idxK
  cases hi : natOf i with
  | none => rfl
  | some a =>
    show (Bool.rec (motive := fun _ => Option Nat) (idxV i len) (some a) (Nat.ble (Nat.succ a) len) : Option Nat) = _
    rw [natOf_some hi]
    cases hb : Nat.ble (Nat.succ a) len with
    | false => rfl
    | true =>
      have := Nat.le_of_ble_eq_true hb
      show some a = if 0 ≤ (Int.ofNat a) ∧ (Int.ofNat a) < (len : Int) then some (Int.ofNat a).toNat else none
      rw [if_pos ⟨Int.natCast_nonneg a, Int.ofNat_lt.2 this⟩]
      rfl

noncomputable def slPtr (sz : Nat) (a : Addr) (j : Option Nat) : Option Value := Option.rec (motive := fun _ => Option Value) none (fun j => some (.pointer (some (a.add (j * sz))))) j
noncomputable def addrSlK (sz : Nat) (x : Value) (i : Value) : Option Value := match x with
  | .slice (some a) len _ => slPtr sz a (idxK i len)
  | _ => none
theorem addrSlK_eq (sz : Nat) (x i : Value) : addrSlK sz x i = (match x with
  | .slice (some a) len _ => match idxV i len with
      | some j => some (.pointer (some (a.add (j * sz))))
      | none => none
  | _ => none) := by
  unfold addrSlK
  split
  · rw [idxK_eq]; unfold slPtr; split <;> rename_i h <;> rw [h]
  · rfl

def lenK : Value → Option Value
  | .slice _ n _ => some (.int .i64 n)
  | _ => none
def realK : Value → Option Value
  | .complex k re _ => some (.float k re)
  | _ => none
def imagK : Value → Option Value
  | .complex k _ im => some (.float k im)
  | _ => none
noncomputable def oneB (f : Value → Option Value) (xs : List Operand) (fr : TF) : Option Value := match xs with
  | [x] => f (evK x fr)
  | _ => none
noncomputable def buK (b : ABu) : List Operand → TF → Option Value := match b with
  | .len => oneB lenK
  | .real => oneB realK
  | .imag => oneB imagK
  | b => fun xs fr => buV b (xs.map (evO fr))
theorem buK_eq (b : ABu) (xs : List Operand) (fr : TF) : buK b xs fr = buV b (xs.map (evO fr)) := by
  have h : ∀ (f : Value → Option Value) (b : ABu), (∀ v, f v = buV b [v]) → (∀ vs, vs.length ≠ 1 → buV b vs = none) → oneB f xs fr = buV b (xs.map (evO fr)) := fun f b h1 h2 => by
    unfold oneB
    split
    · rw [h1, evK_eq]; rfl
    · rename_i hx
      rw [h2]
      intro h
      match xs, h, hx with
      | [x], _, hx => exact hx x rfl
  cases b with
  | len => exact h lenK .len (fun v => by cases v <;> rfl) (fun vs hv => by match vs, hv with | [], _ => rfl | [_], h => exact absurd rfl h | a :: _ :: _, _ => cases a <;> rfl)
  | real => exact h realK .real (fun v => by cases v <;> rfl) (fun vs hv => by match vs, hv with | [], _ => rfl | [_], h => exact absurd rfl h | a :: _ :: _, _ => cases a <;> rfl)
  | imag => exact h imagK .imag (fun v => by cases v <;> rfl) (fun vs hv => by match vs, hv with | [], _ => rfl | [_], h => exact absurd rfl h | a :: _ :: _, _ => cases a <;> rfl)
  | _ => rfl

/-! ## Memory -/

noncomputable def nthK (l : List Value) : Nat → Option Value :=
  List.rec (motive := fun _ => Nat → Option Value) (fun _ => none) (fun v _ ih n => Nat.rec (motive := fun _ => Option Value) (some v) (fun m _ => ih m) n) l
theorem nthK_eq (l : List Value) : ∀ n, nthK l n = l[n]? := by
  induction l with
  | nil => intro n; rfl
  | cons v l ih =>
    intro n
    cases n with
    | zero => rfl
    | succ n => exact (ih n).trans (by simp)

def cellOf (o : Nat) : Option ABlk → Option Value
  | some (.cells cs _) => cs[o]?
  | some (.ro cs) => cs[o]?
  | _ => none
noncomputable def cellOfK (o : Nat) (b : Option ABlk) : Option Value :=
  Option.rec (motive := fun _ => Option Value) none (fun k => ABlk.rec (motive := fun _ => Option Value) (fun cs _ => nthK cs o) (fun cs => nthK cs o) (fun _ _ => none) (fun _ _ => none) k) b
theorem cellOfK_eq (o : Nat) (b : Option ABlk) : cellOfK o b = cellOf o b := by
  rcases b with _ | b
  · rfl
  · cases b <;> first | rfl | exact nthK_eq _ _
noncomputable def loadK (n : Option Nat) (a : Value) (s : KS) : Option Value := match a with
  | .pointer (some ⟨b, o, none⟩) => Option.rec (motive := fun _ => Option Value) (cellOfK o (Tri.get s.h b)) (fun n => loadV s (some n) (.pointer (some ⟨b, o, none⟩))) n
  | a => loadV s n a
theorem loadK_eq (n : Option Nat) (a : Value) (s : KS) : loadK n a s = loadV s n a := by
  unfold loadK
  split
  · rename_i b o
    cases n with
    | none =>
      show cellOfK o (Tri.get s.h b) = cellAt s ⟨b, o, none⟩
      rw [cellOfK_eq]
      unfold cellAt cellOf
      show (match Tri.get s.h b with | some (.cells cs _) => cs[o]? | some (.ro cs) => cs[o]? | _ => none) = (match Tri.get s.h b with | some (.cells cs _) => _ | some (.ro cs) => _ | _ => none)
      split <;> rfl
    | some n => rfl
  · rfl

/-- one cell put -/
noncomputable def putL1 (v : Value) (l : List Value) : Nat → List Value :=
  List.rec (motive := fun _ => Nat → List Value) (fun _ => []) (fun c l ih n => Nat.rec (motive := fun _ => List Value) (v :: l) (fun m _ => c :: ih m) n) l
theorem putL_nil (l : List Value) (n : Nat) : putL l n [] = l := by cases l <;> rfl
theorem putL1_eq (v : Value) (l : List Value) : ∀ n, putL1 v l n = putL l n [v] := by
  induction l with
  | nil => intro n; rfl
  | cons c l ih =>
    intro n
    cases n with
    | zero => show v :: l = v :: putL l 0 []; rw [putL_nil]
    | succ n => show c :: putL1 v l n = c :: putL l n [v]; rw [ih]
def oneW : Value → Bool
  | .int _ _ | .float _ _ | .complex _ _ _ | .bool _ => true
  | _ => false
theorem oneW_one {v : Value} (h : oneW v = true) : oneCell v = true ∧ v.cells = #[v] := by
  cases v <;> first | exact ⟨rfl, rfl⟩ | cases h
noncomputable def storeG (n : Nat) (a x : Value) (s : KS) : Option (Value × KS) := match a with
  | .pointer (some p) => if x.cells.size = n then (putCells s p x.cells.toList).map fun s' => (undefV, s') else none
  | _ => none
noncomputable def stoK (s : KS) (b o : Nat) (x : Value) (d : Option (Value × KS)) (k : Option ABlk) : Option (Value × KS) :=
  Option.rec (motive := fun _ => Option (Value × KS)) none (fun k => ABlk.rec (motive := fun _ => Option (Value × KS))
    (fun cs op => Bool.rec (motive := fun _ => Option (Value × KS)) d (some (undefV, ⟨Tri.set (some (.cells (putL1 x cs o) op)) s.h b, s.nxt⟩)) (Nat.ble (Nat.succ o) cs.length)) (fun _ => d) (fun _ _ => d) (fun _ _ => d) k) k
noncomputable def storeK (n : Nat) (a x : Value) (s : KS) : Option (Value × KS) := match a with
  | .pointer (some ⟨b, o, none⟩) => Bool.rec (motive := fun _ => Option (Value × KS)) (storeG n (.pointer (some ⟨b, o, none⟩)) x s)
      (Bool.rec (motive := fun _ => Option (Value × KS)) (storeG n (.pointer (some ⟨b, o, none⟩)) x s) (stoK s b o x (storeG n (.pointer (some ⟨b, o, none⟩)) x s) (Tri.get s.h b)) (Nat.beq n 1)) (oneW x)
  | a => storeG n a x s
theorem storeK_eq (n : Nat) (a x : Value) (s : KS) : storeK n a x s = (match a with
  | .pointer (some p) => if x.cells.size = n then (putCells s p x.cells.toList).map fun s' => (undefV, s') else none
  | _ => none) := by
  show _ = storeG n a x s
  unfold storeK
  split
  · rename_i b o
    cases hx : oneW x with
    | false => rfl
    | true =>
      show (Bool.rec (motive := fun _ => Option (Value × KS)) _ _ (Nat.beq n 1) : Option (Value × KS)) = _
      cases hn : Nat.beq n 1 with
      | false => rfl
      | true =>
        obtain rfl := Nat.eq_of_beq_eq_true hn
        show stoK s b o x _ (Tri.get s.h b) = _
        obtain ⟨h1, h2⟩ := oneW_one hx
        have hG : storeG 1 (.pointer (some ⟨b, o, none⟩)) x s = (putCells s ⟨b, o, none⟩ [x]).map fun s' => (undefV, s') := by
          show (if x.cells.size = 1 then (putCells s ⟨b, o, none⟩ x.cells.toList).map fun s' => (undefV, s') else none) = _
          rw [h2]; rfl
        have hP : putCells s ⟨b, o, none⟩ [x] = (match Tri.get s.h b with
          | some (.cells cs op) => if o + 1 ≤ cs.length then some { s with h := Tri.set (some (.cells (putL cs o [x]) op)) s.h b } else none
          | _ => none) := by
          unfold putCells
          show (match Tri.get s.h b with | some (.cells cs op) => _ | _ => none) = _
          split
          · rename_i cs op _
            show (if o + 1 ≤ cs.length then (if (oneCell x && true) = true then _ else none) else none) = _
            rw [h1]; rfl
          · rfl
        rw [hG, hP]
        cases hk : Tri.get s.h b with
        | none => rfl
        | some k =>
          cases k with
          | cells cs op =>
            show (Bool.rec (motive := fun _ => Option (Value × KS)) _ (some (undefV, ⟨Tri.set (some (.cells (putL1 x cs o) op)) s.h b, s.nxt⟩)) (Nat.ble (Nat.succ o) cs.length) : Option (Value × KS)) = (if o + 1 ≤ cs.length then some { s with h := Tri.set (some (.cells (putL cs o [x]) op)) s.h b } else none : Option KS).map fun s' => (undefV, s')
            cases hb : Nat.ble (Nat.succ o) cs.length with
            | true =>
              have := Nat.le_of_ble_eq_true hb
              rw [if_pos this, putL1_eq]; rfl
            | false => rfl
          | ro cs => rfl
          | map es ck => rfl
          | iter t p => rfl
  · rfl

noncomputable def callK (cf : CallF (Tri ABlk)) (f : Value) (xs : List Value) (s : KS) : Option (Value × KS) := match f with
  | .func (.func g) first captured => cf g (first.toList ++ xs ++ captured.toList) s
  | _ => none
theorem callK_eq (cf : CallF (Tri ABlk)) (f : Value) (xs : List Value) (s : KS) : callK cf f xs s = (match f with
  | .func (.func g) first captured => cf g (first.toList ++ xs ++ captured.toList) s
  | _ => none) := rfl

noncomputable def pairK (s : KS) (v : Option Value) : Option (Value × KS) := Option.rec (motive := fun _ => Option (Value × KS)) none (fun v => some (v, s)) v
theorem pairK_eq (s : KS) (v u : Option Value) (h : v = u) : pairK s v = u.map fun v => (v, s) := by subst h; cases v <;> rfl
noncomputable def newSK (s : KS) (v : Option (Value × ABlk)) : Option (Value × KS) := Option.rec (motive := fun _ => Option (Value × KS)) none (fun v => some (v.1, newAt s v.2)) v
theorem newSK_eq (s : KS) (v : Option (Value × ABlk)) : newSK s v = v.map fun vb => (vb.1, newAt s vb.2) := by cases v <;> rfl

noncomputable def pureK (op : AOp) : TF → Option Value := AOp.rec (motive := fun _ => TF → Option Value)
  (fun x fr => some (evK x fr))
  (fun c a b fr => pureV fr (.pick c a b))
  (fun op x y fr => binK op (evK x fr) (evK y fr))
  (fun neg t x y fr => pureV fr (.eq neg t x y))
  (fun op x fr => unV op (evK x fr))
  (fun c x fr => convV c (evK x fr))
  (fun x fr => pureV fr (.nilCheck x))
  (fun x i fr => extractK i (evK x fr))
  (fun off n x fr => fieldK off n (evK x fr))
  (fun off x fr => pureV fr (.fieldAddr off x))
  (fun len sz x i fr => pureV fr (.addrArr len sz x i))
  (fun sz x i fr => addrSlK sz (evK x fr) (evK i fr))
  (fun len sz agg x i fr => pureV fr (.idxArr len sz agg x i))
  (fun x i fr => pureV fr (.idxStr x i))
  (fun x lo hi fr => pureV fr (.slStr x lo hi))
  (fun sz x lo hi mx fr => pureV fr (.slSl sz x lo hi mx))
  (fun n sz x lo hi mx fr => pureV fr (.slArr n sz x lo hi mx))
  (fun zero parts fr => pureV fr (.build zero parts))
  (fun fn first captured fr => pureV fr (.mkFunc fn first captured))
  (fun t x fr => pureV fr (.mkIface t x))
  (fun b xs fr => buK b xs fr)
  (fun _ _ _ => none)
  (fun _ _ => none)
  (fun _ _ _ _ _ _ => none)
  (fun _ _ => none)
  (fun _ _ _ => none)
  (fun _ _ _ => none)
  (fun _ _ _ _ _ _ => none)
  (fun _ _ _ _ _ _ _ => none)
  (fun _ => none)
  (fun _ _ => none)
  (fun _ _ _ _ => none)
  (fun _ _ _ _ _ => none)
  (fun _ _ _ _ => none)
  (fun _ _ _ _ _ _ _ => none)
  (fun _ _ _ _ => none)
  (fun _ _ _ => none)
  (fun _ _ => none)
  (fun _ _ => none)
  (fun _ _ _ _ => none)
  (fun _ _ _ => none)
  op
theorem pureK_eq (op : AOp) (fr : TF) : pureK op fr = pureV fr op := by
  cases op <;> first
    | rfl
    | (show some (evK _ fr) = some (evO fr _); rw [evK_eq])
    | (show binK _ (evK _ fr) (evK _ fr) = binV _ (evO fr _) (evO fr _); rw [evK_eq, evK_eq, binK_eq])
    | (show unV _ (evK _ fr) = unV _ (evO fr _); rw [evK_eq])
    | (show convV _ (evK _ fr) = convV _ (evO fr _); rw [evK_eq])
    | exact buK_eq _ _ fr
    | (refine (extractK_eq _ _).trans ?_; rw [evK_eq]; rfl)
    | (refine (fieldK_eq _ _ _).trans ?_; rw [evK_eq]; rfl)
    | (refine (addrSlK_eq _ _ _).trans ?_; rw [evK_eq, evK_eq]; rfl)

noncomputable def readK (op : AOp) : TF → KS → Option Value := AOp.rec (motive := fun _ => TF → KS → Option Value)
  (fun _ _ _ => none)
  (fun _ _ _ _ _ => none)
  (fun _ _ _ _ _ => none)
  (fun _ _ _ _ _ _ => none)
  (fun _ _ _ _ => none)
  (fun _ _ _ _ => none)
  (fun _ _ _ => none)
  (fun _ _ _ _ => none)
  (fun _ _ _ _ _ => none)
  (fun _ _ _ _ => none)
  (fun _ _ _ _ _ _ => none)
  (fun _ _ _ _ _ => none)
  (fun _ _ _ _ _ _ _ => none)
  (fun _ _ _ _ => none)
  (fun _ _ _ _ _ => none)
  (fun _ _ _ _ _ _ _ => none)
  (fun _ _ _ _ _ _ _ _ => none)
  (fun _ _ _ _ => none)
  (fun _ _ _ _ _ => none)
  (fun _ _ _ _ => none)
  (fun _ _ _ _ => none)
  (fun n a fr s => loadK n (evK a fr) s)
  (fun x' fr s => readV fr s (.text x'))
  (fun kt' zero' ok' m' k' fr s => readV fr s (.lookup kt' zero' ok' m' k'))
  (fun m' fr s => readV fr s (.lenMap m'))
  (fun _ _ _ _ => none)
  (fun _ _ _ _ => none)
  (fun _ _ _ _ _ _ _ => none)
  (fun _ _ _ _ _ _ _ _ => none)
  (fun _ _ => none)
  (fun _ _ _ => none)
  (fun _ _ _ _ _ => none)
  (fun _ _ _ _ _ _ => none)
  (fun _ _ _ _ _ => none)
  (fun _ _ _ _ _ _ _ _ => none)
  (fun _ _ _ _ _ => none)
  (fun _ _ _ _ => none)
  (fun _ _ _ => none)
  (fun _ _ _ => none)
  (fun _ _ _ _ _ => none)
  (fun _ _ _ _ => none)
  op
theorem readK_eq (op : AOp) (fr : TF) (s : KS) : readK op fr s = readV fr s op := by
  cases op <;> first
    | rfl
    | (refine (loadK_eq _ _ s).trans ?_; rw [evK_eq]; rfl)

noncomputable def actK (op : AOp) : CallF (Tri ABlk) → TF → KS → Option (Value × KS) := AOp.rec (motive := fun _ => CallF (Tri ABlk) → TF → KS → Option (Value × KS))
  (fun _ _ _ _ => none)
  (fun _ _ _ _ _ _ => none)
  (fun _ _ _ _ _ _ => none)
  (fun _ _ _ _ _ _ _ => none)
  (fun _ _ _ _ _ => none)
  (fun _ _ _ _ _ => none)
  (fun _ _ _ _ => none)
  (fun _ _ _ _ _ => none)
  (fun _ _ _ _ _ _ => none)
  (fun _ _ _ _ _ => none)
  (fun _ _ _ _ _ _ _ => none)
  (fun _ _ _ _ _ _ => none)
  (fun _ _ _ _ _ _ _ _ => none)
  (fun _ _ _ _ _ => none)
  (fun _ _ _ _ _ _ => none)
  (fun _ _ _ _ _ _ _ _ => none)
  (fun _ _ _ _ _ _ _ _ _ => none)
  (fun _ _ _ _ _ => none)
  (fun _ _ _ _ _ _ => none)
  (fun _ _ _ _ _ => none)
  (fun _ _ _ _ _ => none)
  (fun _ _ _ _ _ => none)
  (fun _ _ _ _ => none)
  (fun _ _ _ _ _ _ _ _ => none)
  (fun _ _ _ _ => none)
  (fun _ _ _ _ _ => none)
  (fun _ _ _ _ _ => none)
  (fun _ _ _ _ _ _ _ _ => none)
  (fun _ _ _ _ _ _ _ _ _ => none)
  (fun _ _ _ => none)
  (fun _ _ _ _ => none)
  (fun n a x _ fr s => storeK n (evK a fr) (evK x fr) s)
  (fun kt' m' k' x' cf fr s => actV cf fr s (.mapPut kt' m' k' x'))
  (fun kt' m' k' cf fr s => actV cf fr s (.mapDel kt' m' k'))
  (fun elem' bytes' sz' zero' s' x' cf fr s => actV cf fr s (.append elem' bytes' sz' zero' s' x'))
  (fun sz' d' s' cf fr s => actV cf fr s (.copy sz' d' s'))
  (fun elem' x' cf fr s => actV cf fr s (.bytes elem' x'))
  (fun x' cf fr s => actV cf fr s (.strish x'))
  (fun x' cf fr s => actV cf fr s (.nextStr x'))
  (fun e' f' xs' cf fr s => actV cf fr s (.ext e' f' xs'))
  (fun f xs cf fr s => callK cf (evK f fr) (xs.map fun x => evK x fr) s)
  op
theorem actK_eq (op : AOp) (cf : CallF (Tri ABlk)) (fr : TF) (s : KS) : actK op cf fr s = actV cf fr s op := by
  cases op <;> first
    | rfl
    | (refine (storeK_eq _ _ _ s).trans ?_; rw [evK_eq, evK_eq]; rfl)
    | (refine (callK_eq cf _ _ s).trans ?_; rw [evK_eq, show (fun x => evK x fr) = evO fr from funext fun x => evK_eq x fr]; rfl)

noncomputable def kindK (op : AOp) : Kind := AOp.rec (motive := fun _ => Kind)
  (fun _ => .pur)
  (fun _ _ _ => .pur)
  (fun _ _ _ => .pur)
  (fun _ _ _ _ => .pur)
  (fun _ _ => .pur)
  (fun _ _ => .pur)
  (fun _ => .pur)
  (fun _ _ => .pur)
  (fun _ _ _ => .pur)
  (fun _ _ => .pur)
  (fun _ _ _ _ => .pur)
  (fun _ _ _ => .pur)
  (fun _ _ _ _ _ => .pur)
  (fun _ _ => .pur)
  (fun _ _ _ => .pur)
  (fun _ _ _ _ _ => .pur)
  (fun _ _ _ _ _ _ => .pur)
  (fun _ _ => .pur)
  (fun _ _ _ => .pur)
  (fun _ _ => .pur)
  (fun _ _ => .pur)
  (fun _ _ => .rd)
  (fun _ => .rd)
  (fun _ _ _ _ _ => .rd)
  (fun _ => .rd)
  (fun _ _ => .new)
  (fun _ _ => .new)
  (fun _ _ _ _ _ => .new)
  (fun _ _ _ _ _ _ => .new)
  (.new)
  (fun _ => .new)
  (fun _ _ _ => .act)
  (fun _ _ _ _ => .act)
  (fun _ _ _ => .act)
  (fun _ _ _ _ _ _ => .act)
  (fun _ _ _ => .act)
  (fun _ _ => .act)
  (fun _ => .act)
  (fun _ => .act)
  (fun _ _ _ => .act)
  (fun _ _ => .act)
  op
theorem kindK_eq (op : AOp) : kindK op = op.kind := by cases op <;> rfl

noncomputable def stepK (op : AOp) : CallF (Tri ABlk) → TF → KS → Option (Value × KS) := AOp.rec (motive := fun _ => CallF (Tri ABlk) → TF → KS → Option (Value × KS))
  (fun x' _ fr s => pairK s (some (evK x' fr)))
  (fun c' a' b' _ fr s => pairK s (pureV fr (.pick c' a' b')))
  (fun op' x' y' _ fr s => pairK s (binK op' (evK x' fr) (evK y' fr)))
  (fun neg' t' x' y' _ fr s => pairK s (pureV fr (.eq neg' t' x' y')))
  (fun op' x' _ fr s => pairK s (unV op' (evK x' fr)))
  (fun c' x' _ fr s => pairK s (convV c' (evK x' fr)))
  (fun x' _ fr s => pairK s (pureV fr (.nilCheck x')))
  (fun x' i' _ fr s => pairK s (extractK i' (evK x' fr)))
  (fun off' n' x' _ fr s => pairK s (fieldK off' n' (evK x' fr)))
  (fun off' x' _ fr s => pairK s (pureV fr (.fieldAddr off' x')))
  (fun len' sz' x' i' _ fr s => pairK s (pureV fr (.addrArr len' sz' x' i')))
  (fun sz' x' i' _ fr s => pairK s (addrSlK sz' (evK x' fr) (evK i' fr)))
  (fun len' sz' agg' x' i' _ fr s => pairK s (pureV fr (.idxArr len' sz' agg' x' i')))
  (fun x' i' _ fr s => pairK s (pureV fr (.idxStr x' i')))
  (fun x' lo' hi' _ fr s => pairK s (pureV fr (.slStr x' lo' hi')))
  (fun sz' x' lo' hi' mx' _ fr s => pairK s (pureV fr (.slSl sz' x' lo' hi' mx')))
  (fun n' sz' x' lo' hi' mx' _ fr s => pairK s (pureV fr (.slArr n' sz' x' lo' hi' mx')))
  (fun zero' parts' _ fr s => pairK s (pureV fr (.build zero' parts')))
  (fun fn' first' captured' _ fr s => pairK s (pureV fr (.mkFunc fn' first' captured')))
  (fun t' x' _ fr s => pairK s (pureV fr (.mkIface t' x')))
  (fun b' xs' _ fr s => pairK s (buK b' xs' fr))
  (fun n' a' _ fr s => pairK s (loadK n' (evK a' fr) s))
  (fun x' _ fr s => pairK s (readV fr s (.text x')))
  (fun kt' zero' ok' m' k' _ fr s => pairK s (readV fr s (.lookup kt' zero' ok' m' k')))
  (fun m' _ fr s => pairK s (readV fr s (.lenMap m')))
  (fun elem' zero' _ fr s => newSK s (newV fr s.nxt (.alloc elem' zero')))
  (fun elem' x' _ fr s => newSK s (newV fr s.nxt (.box elem' x')))
  (fun elem' sz' zero' len' parts' _ fr s => newSK s (newV fr s.nxt (.buildSlice elem' sz' zero' len' parts')))
  (fun elem' bytes' sz' zero' l' c' _ fr s => newSK s (newV fr s.nxt (.makeSlice elem' bytes' sz' zero' l' c')))
  (fun _ fr s => newSK s (newV fr s.nxt .makeMap))
  (fun x' _ fr s => newSK s (newV fr s.nxt (.strIter x')))
  (fun n' a' x' _ fr s => storeK n' (evK a' fr) (evK x' fr) s)
  (fun kt' m' k' x' cf fr s => actV cf fr s (.mapPut kt' m' k' x'))
  (fun kt' m' k' cf fr s => actV cf fr s (.mapDel kt' m' k'))
  (fun elem' bytes' sz' zero' s' x' cf fr s => actV cf fr s (.append elem' bytes' sz' zero' s' x'))
  (fun sz' d' s' cf fr s => actV cf fr s (.copy sz' d' s'))
  (fun elem' x' cf fr s => actV cf fr s (.bytes elem' x'))
  (fun x' cf fr s => actV cf fr s (.strish x'))
  (fun x' cf fr s => actV cf fr s (.nextStr x'))
  (fun e' f' xs' cf fr s => actV cf fr s (.ext e' f' xs'))
  (fun f' xs' cf fr s => callK cf (evK f' fr) (xs'.map fun x => evK x fr) s)
  op
theorem stepK_eq (op : AOp) (cf : CallF (Tri ABlk)) (fr : TF) (s : KS) : stepK op cf fr s = stepV cf fr s op := by
  have hp := pureK_eq op fr
  have hr := readK_eq op fr s
  have ha := actK_eq op cf fr s
  cases op <;> first
    | exact ha
    | exact pairK_eq s _ _ hp
    | exact pairK_eq s _ _ hr
    | skip
  case alloc e z => exact newSK_eq s (newV fr s.nxt (.alloc e z))
  case box e z => exact newSK_eq s (newV fr s.nxt (.box e z))
  case buildSlice a b c d e => exact newSK_eq s (newV fr s.nxt (.buildSlice a b c d e))
  case makeSlice a b c d e f => exact newSK_eq s (newV fr s.nxt (.makeSlice a b c d e f))
  case makeMap => exact newSK_eq s (newV fr s.nxt .makeMap)
  case strIter x => exact newSK_eq s (newV fr s.nxt (.strIter x))

/-! ## Code -/

noncomputable def wantK (g : Option (Tmp × Bool)) (fr : TF) : Bool := Option.rec (motive := fun _ => Bool) true (fun g => wantV fr (some g)) g
theorem wantK_eq (g : Option (Tmp × Bool)) (fr : TF) : wantK g fr = wantV fr g := by cases g <;> rfl

abbrev OpsK := TF → KS → Option (TF × KS)
noncomputable def nextK (ih : OpsK) (d : Option Tmp) (fr : TF) (r : Option (Value × KS)) : Option (TF × KS) :=
  Option.rec (motive := fun _ => Option (TF × KS)) none (fun p => Prod.rec (motive := fun _ => Option (TF × KS)) (fun v s => ih (putK d v fr) s) p) r
noncomputable def operK (cf : CallF (Tri ABlk)) (o : AOper) (ih : OpsK) : OpsK :=
  AOper.rec (motive := fun _ => OpsK) (fun op d g => Option.rec (motive := fun _ => OpsK) (fun fr s => nextK ih d fr (stepK op cf fr s))
    (fun g fr s => Bool.rec (motive := fun _ => Option (TF × KS)) (ih (putK d undefV fr) s) (nextK ih d fr (stepK op cf fr s)) (wantV fr (some g))) g) o
noncomputable def evOpsK (cf : CallF (Tri ABlk)) (l : List AOper) : OpsK :=
  List.rec (motive := fun _ => OpsK) (fun fr s => some (fr, s)) (fun o _ ih => operK cf o ih) l
theorem evOpsK_eq (cf : CallF (Tri ABlk)) (l : List AOper) : ∀ fr s, evOpsK cf l fr s = evOps cf l fr s := by
  induction l with
  | nil => intro fr s; rfl
  | cons o l ih =>
    intro fr s
    have hn : ∀ (o : AOper), nextK (evOpsK cf l) o.dst fr (stepK o.op cf fr s) = (match stepV cf fr s o.op with | some (v, s') => evOps cf l (puT fr o.dst v) s' | none => none) := fun o => by
      rw [stepK_eq]
      cases stepV cf fr s o.op with
      | none => rfl
      | some p => exact (congrArg (fun x => evOpsK cf l x p.2) (putK_eq _ _ _)).trans (ih _ _)
    obtain ⟨op, d, g⟩ := o
    show operK cf ⟨op, d, g⟩ (evOpsK cf l) fr s = _
    unfold evOps
    cases g with
    | none =>
      rw [if_pos (show wantV fr none = true from rfl)]
      refine (hn ⟨op, d, none⟩).trans ?_
      dsimp only
      cases stepV cf fr s op <;> rfl
    | some g =>
      show (Bool.rec (motive := fun _ => Option (TF × KS)) (evOpsK cf l (putK d undefV fr) s) (nextK (evOpsK cf l) d fr (stepK op cf fr s)) (wantV fr (some g)) : Option (TF × KS)) = _
      cases hw : wantV fr (some g) with
      | true => 
        rw [if_pos rfl]
        refine (hn ⟨op, d, some g⟩).trans ?_
        dsimp only
        cases stepV cf fr s op <;> rfl
      | false => rw [if_neg Bool.false_ne_true]; exact (congrArg (fun x => evOpsK cf l x s) (putK_eq _ _ _)).trans (ih _ _)

/-! ### Drawn regions -/

abbrev DS := DState TF (Tri ABlk)
noncomputable def dPur (o : AOper) (_pre _i : Nat) (d : DS) : Option DS :=
  Option.rec (motive := fun _ => Option DS) none (fun v => some ⟨putK o.dst v d.fr, d.s, d.hist, d.acts, d.flt, d.nid, d.watch⟩) (pureK o.op d.fr)
noncomputable def dRd (o : AOper) (pre i : Nat) (d : DS) : Option DS :=
  Option.rec (motive := fun _ => Option DS) none (fun v => Bool.rec (motive := fun _ => Option DS) none (some ⟨putK o.dst v d.fr, d.s, d.hist, d.acts, d.flt, d.nid, ⟨i, d.fr, o.op, v⟩ :: d.watch⟩) (pastOk d.fr o.op v pre d.acts d.hist)) (readK o.op d.fr d.s)
noncomputable def dNew (o : AOper) (_pre i : Nat) (d : DS) : Option DS :=
  Option.rec (motive := fun _ => Option DS) none (fun p => some ⟨putK o.dst p.1 d.fr, d.s, d.hist, d.acts, (i, d.nid, p.2) :: d.flt, d.nid + 1, d.watch⟩) (newV d.fr d.nid o.op)
noncomputable def dAct2 (o : AOper) (pre i : Nat) (d : DS) (fl : List (Nat × Nat × ABlk)) (r : Option (Value × KS)) : Option DS :=
  Option.rec (motive := fun _ => Option DS) none (fun p => Bool.rec (motive := fun _ => Option DS) none
    (some ⟨putK o.dst p.1 d.fr, p.2, d.s :: d.hist, i :: d.acts, fl, d.nid, d.watch.filter fun w => !pre.testBit w.i⟩) (d.watch.all fun w => pre.testBit w.i || stillV p.2 w)) r
noncomputable def dAct (cf : CallF (Tri ABlk)) (o : AOper) (pre i : Nat) (d : DS) : Option DS :=
  Bool.rec (motive := fun _ => Option DS) none
    (dAct2 o pre i d (joinF pre d.flt d.s.h).2 (actK o.op cf d.fr ⟨(joinF pre d.flt d.s.h).1, d.s.nxt⟩)) (preHead pre d.acts)
noncomputable def stepDK (cf : CallF (Tri ABlk)) (o : DOper) (i : Nat) (d : DS) : Option DS :=
  DOper.rec (motive := fun _ => Option DS) (fun o pre => Bool.rec (motive := fun _ => Option DS) (stepD cf ⟨o, pre⟩ i d)
    (Kind.rec (motive := fun _ => Nat → Nat → DS → Option DS) (dPur o) (dRd o) (dNew o) (dAct cf o) (kindK o.op) pre i d) (wantK o.guard d.fr)) o
theorem stepDK_eq (cf : CallF (Tri ABlk)) (o : DOper) (i : Nat) (d : DS) : stepDK cf o i d = stepD cf o i d := by
  obtain ⟨o, pre⟩ := o
  show (Bool.rec (motive := fun _ => Option DS) (stepD cf ⟨o, pre⟩ i d) (Kind.rec (motive := fun _ => Nat → Nat → DS → Option DS) (dPur o) (dRd o) (dNew o) (dAct cf o) (kindK o.op) pre i d) (wantK o.guard d.fr) : Option DS) = _
  rw [kindK_eq, wantK_eq]
  cases hw : wantV d.fr o.guard with
  | false => rfl
  | true =>
    show (Kind.rec (motive := fun _ => Nat → Nat → DS → Option DS) (dPur o) (dRd o) (dNew o) (dAct cf o) o.op.kind pre i d : Option DS) = _
    cases hk : o.op.kind with
    | pur =>
      show dPur o pre i d = _
      unfold stepD dPur
      simp only [hk, hw, if_true, pureK_eq, putK_eq]
      cases pureV d.fr o.op <;> rfl
    | rd =>
      show dRd o pre i d = _
      unfold stepD dRd
      simp only [hk, hw, if_true, readK_eq, putK_eq]
      cases readV d.fr d.s o.op with
      | none => rfl
      | some v =>
        show (Bool.rec (motive := fun _ => Option DS) _ _ (pastOk d.fr o.op v pre d.acts d.hist) : Option DS) = if pastOk d.fr o.op v pre d.acts d.hist = true then _ else _
        cases pastOk d.fr o.op v pre d.acts d.hist <;> rfl
    | new =>
      show dNew o pre i d = _
      unfold stepD dNew
      simp only [hk, hw, if_true, putK_eq]
      cases newV d.fr d.nid o.op <;> rfl
    | act =>
      show dAct cf o pre i d = _
      unfold stepD dAct
      simp only [hk, hw, if_true, actK_eq]
      cases preHead pre d.acts with
      | false => rfl
      | true =>
        show dAct2 o pre i d _ _ = _
        simp only [if_true]
        unfold dAct2
        generalize actV cf d.fr ⟨(joinF pre d.flt d.s.h).1, d.s.nxt⟩ o.op = r
        cases r with
        | none => rfl
        | some p =>
          show (Bool.rec (motive := fun _ => Option DS) _ _ (d.watch.all fun w => pre.testBit w.i || stillV p.2 w) : Option DS) = if (d.watch.all fun w => pre.testBit w.i || stillV p.2 w) = true then _ else _
          rw [putK_eq]
          cases (d.watch.all fun w => pre.testBit w.i || stillV p.2 w) <;> rfl

noncomputable def evDK (cf : CallF (Tri ABlk)) (l : List DOper) : Nat → DS → Option DS :=
  List.rec (motive := fun _ => Nat → DS → Option DS) (fun _ d => some d) (fun o _ ih i d => Option.rec (motive := fun _ => Option DS) none (fun d' => ih (Nat.succ i) d') (stepDK cf o i d)) l
theorem evDK_eq (cf : CallF (Tri ABlk)) (l : List DOper) : ∀ i d, evDK cf l i d = evD cf l i d := by
  induction l with
  | nil => intro i d; rfl
  | cons o l ih =>
    intro i d
    show (Option.rec (motive := fun _ => Option DS) none (fun d' => evDK cf l (Nat.succ i) d') (stepDK cf o i d) : Option DS) = _
    rw [stepDK_eq]
    unfold evD
    cases stepD cf o i d with
    | none => rfl
    | some d' => exact ih _ _
noncomputable def evDrawK (cf : CallF (Tri ABlk)) (l : List DOper) (fr : TF) (s : KS) : Option (TF × KS) :=
  Option.rec (motive := fun _ => Option (TF × KS)) none (fun d => some (d.fr, ⟨joinAll d.flt d.s.h, d.s.nxt⟩)) (evDK cf l 0 ⟨fr, ⟨s.h, s.nxt + countNew l⟩, [], [], [], s.nxt, []⟩)
theorem evDrawK_eq (cf : CallF (Tri ABlk)) (l : List DOper) (fr : TF) (s : KS) : evDrawK cf l fr s = evDraw cf l fr s := by
  unfold evDrawK evDraw
  rw [evDK_eq]
  generalize evD cf l 0 ⟨fr, ⟨s.h, s.nxt + countNew l⟩, [], [], [], s.nxt, []⟩ = r
  cases r <;> rfl

/-! ### Code and calls -/

abbrev XK := Option (AExit × TF × KS)
abbrev CodeK := TF → KS → XK
noncomputable def doneK (r : Option (TF × KS)) : XK := Option.rec (motive := fun _ => XK) none (fun p => some (.normal, p.1, p.2)) r
noncomputable def onK (k : TF → KS → XK) (r : XK) : XK :=
  Option.rec (motive := fun _ => XK) none (fun p => Prod.rec (motive := fun _ => XK) (fun e q => AExit.rec (motive := fun _ => XK) (Prod.rec (motive := fun _ => XK) (fun fr s => k fr s) q) (fun n => some (.exit n, q)) (some (.ret, q)) e) p) r
noncomputable def condK (t e : CodeK) (v : Value) (fr : TF) (s : KS) : XK := match v with
  | .bool b => Bool.rec (motive := fun _ => XK) (e fr s) (t fr s) b
  | _ => none
noncomputable def blockK (id : Nat) (r : XK) : XK :=
  Option.rec (motive := fun _ => XK) none (fun p => Prod.rec (motive := fun _ => XK) (fun e q => AExit.rec (motive := fun _ => XK) (some (.normal, q)) (fun n => Bool.rec (motive := fun _ => XK) (some (.exit n, q)) (some (.normal, q)) (Nat.beq n id)) (some (.ret, q)) e) p) r
noncomputable def iterK (f : CodeK) (n : Nat) : CodeK :=
  Nat.rec (motive := fun _ => CodeK) (fun _ _ => none) (fun _ ih fr s => onK ih (f fr s)) n
noncomputable def evCK (cf : CallF (Tri ABlk)) (n : Nat) (c : ACode) : CodeK :=
  ACode.rec (motive := fun _ => CodeK) (fun fr s => some (.normal, fr, s)) (fun l fr s => doneK (evOpsK cf l fr s)) (fun l fr s => doneK (evDrawK cf l fr s))
    (fun _ _ a b fr s => onK b (a fr s)) (fun c _ _ t e fr s => condK t e (evK c fr) fr s) (fun id _ b fr s => blockK id (b fr s)) (fun _ b => iterK b n) (fun id fr s => some (.exit id, fr, s)) (fun fr s => some (.ret, fr, s)) c

theorem onK_eq (k k' : TF → KS → XK) (h : ∀ fr s, k fr s = k' fr s) (r : XK) : onK k r = (match r with | some (.normal, fr', s') => k' fr' s' | r => r) := by
  rcases r with _ | ⟨e, fr, s⟩
  · rfl
  · cases e <;> first | rfl | exact h fr s
theorem iterK_eq (f f' : CodeK) (h : ∀ fr s, f fr s = f' fr s) : ∀ n fr s, iterK f n fr s = iter f' n fr s := by
  intro n
  induction n with
  | zero => intro fr s; rfl
  | succ n ih =>
    intro fr s
    show onK (iterK f n) (f fr s) = _
    rw [h, onK_eq _ _ ih]
    rw [iter]
    rcases f' fr s with _ | ⟨e, fr', s'⟩
    · rfl
    · cases e <;> rfl
theorem evCK_eq (cf : CallF (Tri ABlk)) (n : Nat) (c : ACode) : ∀ fr s, evCK cf n c fr s = evC cf n c fr s := by
  induction c with
  | skip => intro fr s; rfl
  | ops l =>
    intro fr s
    refine (show evCK cf n (.ops l) fr s = doneK (evOpsK cf l fr s) from rfl).trans ?_
    rw [evOpsK_eq, evC]
    cases evOps cf l fr s <;> rfl
  | draw l =>
    intro fr s
    refine (show evCK cf n (.draw l) fr s = doneK (evDrawK cf l fr s) from rfl).trans ?_
    rw [evDrawK_eq, evC]
    cases evDraw cf l fr s <;> rfl
  | seq a b iha ihb =>
    intro fr s
    show onK (evCK cf n b) (evCK cf n a fr s) = _
    rw [iha, onK_eq _ _ ihb, evC]
    rcases evC cf n a fr s with _ | ⟨e, fr', s'⟩
    · rfl
    · cases e <;> rfl
  | cond c t e iht ihe =>
    intro fr s
    show condK (evCK cf n t) (evCK cf n e) (evK c fr) fr s = (match evO fr c with | .bool true => evC cf n t fr s | .bool false => evC cf n e fr s | _ => none)
    rw [evK_eq]
    unfold condK
    split
    · rename_i b hb
      rw [hb]
      cases b
      · exact ihe fr s
      · exact iht fr s
    · rename_i hb
      split
      · rename_i h; exact absurd h (hb true)
      · rename_i h; exact absurd h (hb false)
      · rfl
  | block id b ih =>
    intro fr s
    refine (show evCK cf n (.block id b) fr s = blockK id (evCK cf n b fr s) from rfl).trans ?_
    rw [ih, evC]
    rcases evC cf n b fr s with _ | ⟨e, fr', s'⟩
    · rfl
    · cases e with
      | normal => rfl
      | ret => rfl
      | exit k =>
        show (Bool.rec (motive := fun _ => XK) _ _ (Nat.beq k id) : XK) = if k = id then _ else _
        cases hb : Nat.beq k id with
        | true => rw [if_pos (Nat.eq_of_beq_eq_true hb)]
        | false => rw [if_neg (Nat.ne_of_beq_eq_false hb)]
  | loop b ih => intro fr s; exact iterK_eq _ _ ih n fr s
  | exit id => intro fr s; rfl
  | ret => intro fr s; rfl

noncomputable def retK (rs : List ARes) (r : XK) : Option (Value × KS) := match r with
  | some (.exit _, _, _) => none
  | some (_, fr', s') => (resVs fr' s' rs).map fun vs => (packV vs, s')
  | none => none
noncomputable def bodyK (cf : CallF (Tri ABlk)) (n : Nat) (args : List Value) (s : KS) (fn : AFn) : Option (Value × KS) :=
  if args.length ≤ fn.ntmps then retK fn.results (evCK cf n fn.body (frameOf args 0 (Tri.leaf : TF)) s) else none
noncomputable def fnK (cf : CallF (Tri ABlk)) (n : Nat) (args : List Value) (s : KS) (fn : Option AFn) : Option (Value × KS) :=
  Option.rec (motive := fun _ => Option (Value × KS)) none (fun fn => bodyK cf n args s fn) fn
noncomputable def evXK (orc : CallF (Tri ABlk)) (fns : FuncId → Option AFn) (n : Nat) : CallF (Tri ABlk) :=
  Nat.rec (motive := fun _ => CallF (Tri ABlk)) (fun _ _ _ => none)
    (fun n ih f args s => Option.rec (motive := fun _ => Option (Value × KS)) (fnK ih n args s (fns f)) (fun r => some r) (orc f args s)) n

theorem evXK_eq (orc : CallF (Tri ABlk)) (fns : FuncId → Option AFn) : ∀ n, evXK orc fns n = evX TF orc fns n := by
  intro n
  induction n with
  | zero => funext f args s; rfl
  | succ n ih =>
    funext f args s
    show (Option.rec (motive := fun _ => Option (Value × KS)) (fnK (evXK orc fns n) n args s (fns f)) (fun r => some r) (orc f args s) : Option (Value × KS)) = _
    rw [ih]
    unfold evX
    cases orc f args s with
    | some r => rfl
    | none =>
      show fnK (evX TF orc fns n) n args s (fns f) = _
      cases fns f with
      | none => rfl
      | some fn =>
        show bodyK (evX TF orc fns n) n args s fn = _
        unfold bodyK
        rw [evCK_eq]
        dsimp only
        show (if args.length ≤ fn.ntmps then retK fn.results (evC (evX TF orc fns n) n fn.body (frameOf args 0 (Store.emp : TF)) s) else none) = _
        split
        · unfold retK
          rcases evC (evX TF orc fns n) n fn.body (frameOf args 0 (Store.emp : TF)) s with _ | ⟨e, fr', s'⟩
          · rfl
          · cases e <;> rfl
        · rfl

end Go.Vam
