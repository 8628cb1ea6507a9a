/- Blocks that are known whole; bytes and strings. -/
import Derived.Test.YtkfcejhebepdkaaWp4
namespace Go.Vam
open Go

variable {s : Mm}

theorem load_g {B o : Nat} {cs : List Value} {p : Bool} (hg : Store.get s.h B = some (.cells cs p)) : loadV s none (.pointer (some ⟨B, o, none⟩)) = cs[o]? := by
  rw [load_1, blk_cells hg]; rfl
theorem loadn_g {B o n : Nat} {cs : List Value} {p : Bool} (hg : Store.get s.h B = some (.cells cs p)) : loadV s (some n) (.pointer (some ⟨B, o, none⟩)) = if o + n ≤ cs.length then some (.agg ((cs.drop o).take n).toArray) else none := by
  rw [load_n, blk_cells hg]; rfl

theorem putL_one : ∀ (cs : List Value) (o : Nat) (x : Value), putL cs o [x] = cs.set o x := by
  intro cs
  induction cs with
  | nil => intro o x; rfl
  | cons c cs ih =>
    intro o x
    cases o with
    | zero => cases cs <;> rfl
    | succ o => simp only [putL, List.set_cons_succ, ih]

theorem cells_one {x : Value} (h : oneCell x = true) : x.cells = #[x] := by
  cases x <;> first | rfl | cases h

theorem store_g {B o : Nat} {cs : List Value} {p : Bool} {x : Value} (hg : Store.get s.h B = some (.cells cs p)) (hx : oneCell x = true) (ho : o < cs.length) :
    storeV s 1 (.pointer (some ⟨B, o, none⟩)) x = some (undefV, setBlk s B (.cells (cs.set o x) p)) := by
  have hx' : x.cells.toList = [x] := by rw [cells_one hx]
  simp only [storeV, hx', putCells, hg]
  rw [if_pos (by rw [cells_one hx]; rfl), if_neg (by simp), if_pos (by simp; omega), if_pos (by simp [hx]), Option.map_some, putL_one]
  rfl

theorem putL_all : ∀ (cs vs : List Value), vs.length = cs.length → putL cs 0 vs = vs := by
  intro cs
  induction cs with
  | nil => intro vs h; cases vs with
    | nil => rfl
    | cons v vs => simp at h
  | cons c cs ih =>
    intro vs h
    cases vs with
    | nil => simp at h
    | cons v vs => simp only [putL, ih vs (by simpa using h)]

/-- A whole block is written. -/
theorem store_all {B n : Nat} {cs vs : List Value} {p : Bool} (hg : Store.get s.h B = some (.cells cs p)) (hv : vs.length = n) (hn : cs.length = n) (h1 : vs.all oneCell = true) :
    storeV s n (.pointer (some ⟨B, 0, none⟩)) (.agg vs.toArray) = some (undefV, setBlk s B (.cells vs p)) := by
  have hc : (Value.agg vs.toArray).cells = vs.toArray := rfl
  simp only [storeV, hc, putCells, hg]
  rw [if_pos (by simpa using hv), if_neg (by simp), if_pos (by simp [hv, hn]), if_pos h1, Option.map_some]
  rw [putL_all cs vs (by omega)]
  rfl

theorem SlC.one {sz n : Nat} {v : Value} {cs : List Value} (h : SlC s sz v n cs) : oneCell v = true := by cases h <;> rfl
theorem Own.one {sz n : Nat} {v : Value} {cs : List Value} (h : Own s sz v n cs) : oneCell v = true := by cases h <;> rfl

theorem loadn_all {B n : Nat} {cs : List Value} {p : Bool} (hg : Store.get s.h B = some (.cells cs p)) (hn : cs.length = n) : loadV s (some n) (.pointer (some ⟨B, 0, none⟩)) = some (.agg cs.toArray) := by
  rw [loadn_g hg, if_pos (by omega), List.drop_zero, ← hn, List.take_length]

/-! ## What stays the same -/

theorem sameO_int {k : IntKind} {n : Int} : sameO (some (.int k n)) (.int k n) = true := by simp [sameO, sameV, beqV]
theorem sameO_float {k : FloatKind} {n : Nat} : sameO (some (.float k n)) (.float k n) = true := by simp [sameO, sameV, beqV]
theorem sameO_bool {b : Bool} : sameO (some (.bool b)) (.bool b) = true := by simp [sameO, sameV, beqV]
theorem sameO_ptr {a : Option Addr} : sameO (some (.pointer a)) (.pointer a) = true := by simp [sameO, sameV, beqV]
theorem sameO_sl {a : Option Addr} {n c : Nat} : sameO (some (.slice a n c)) (.slice a n c) = true := by simp [sameO, sameV, beqV]
theorem SlC.sameO {sz n : Nat} {v : Value} {cs : List Value} (h : SlC s sz v n cs) : Vam.sameO (some v) v = true := by cases h <;> exact sameO_sl

/-! ## What is made -/

theorem makeSl_eq {bytes l c : Nat} {z : List Value} {k k' : IntKind} {i j : Int} (hi : i = l) (hj : j = c) (hlc : l ≤ c) (hc : c < 4611686018427387904) (hb : bytes * c ≤ 281474976710656) :
    makeSlV s bytes z (.int k i) (.int k' j) = some (.slice (some ⟨s.nxt, 0, none⟩) l c, .cells (repZ z c) false) := by
  subst hi; subst hj
  simp only [makeSlV]
  rw [if_pos ⟨by omega, by omega, by omega, by simpa using hb⟩]
  simp

theorem nat_0 : ((0 : Nat) : Int) = 0 := rfl
theorem nat_1 : ((1 : Nat) : Int) = 1 := rfl

/-! ## Bytes -/

def byteV (b : UInt8) : Value := .int .u8 b.toNat
def bsV (l : List UInt8) : List Value := l.map byteV

theorem bytesOf_bsV : ∀ l : List UInt8, bytesOfCells (bsV l) = some l := by
  intro l
  induction l with
  | nil => rfl
  | cons b l ih =>
    have : bytesOfCells (bsV (b :: l)) = (bytesOfCells (bsV l)).map (UInt8.ofNat (b.toNat : Int).toNat :: ·) := rfl
    rw [this, ih]
    simp

theorem bsV_app (a b : List UInt8) : bsV (a ++ b) = bsV a ++ bsV b := List.map_append ..
theorem bsV_length (a : List UInt8) : (bsV a).length = a.length := List.length_map ..
theorem bsV_one (a : List UInt8) : (bsV a).all oneCell = true := by
  simp only [bsV, List.all_map, List.all_eq_true]
  intro x _; rfl
theorem bsV_sub (b : List UInt8) (l h : Nat) : ((bsV b).drop (l * 1)).take ((h - l) * 1) = bsV ((b.drop l).take (h - l)) := by
  simp only [bsV, Nat.mul_one, List.map_take, List.map_drop]

/-- A slice that reads as bytes. -/
abbrev Bs (s : Mm) (v : Value) (b : List UInt8) : Prop := SlC s 1 v b.length (bsV b)

theorem Bs.of {v : Value} {n : Nat} {b : List UInt8} (h : SlC s 1 v n (bsV b)) : Bs s v b := by
  have := h.length
  rw [bsV_length] at this
  have e : n = b.length := by omega
  subst e; exact h

/-- The bytes from a place up to another. -/
def subB (b : List UInt8) (l h : Nat) : List UInt8 := (b.drop l).take (h - l)
theorem subB_length {b : List UInt8} {l h : Nat} (hh : h ≤ b.length) : (subB b l h).length = h - l := by simp [subB]; omega

theorem Bs.sub {v : Value} {b : List UInt8} (hb : Bs s v b) {l h : Nat} (hl : l ≤ h) (hh : h ≤ b.length) : Bs s (subS 1 v l h) (subB b l h) := by
  have := SlC.sub hb hl hh
  rw [bsV_sub] at this
  exact Bs.of this

theorem Bs.el {v : Value} {b : List UInt8} (hb : Bs s v b) {k : Nat} (hk : k < b.length) : loadV s none (elP v (k * 1)) = some (byteV b[k]) := hb.load (by simp [bsV, hk])

theorem Bs.text {v : Value} {b : List UInt8} (hb : Bs s v b) : textV s v = some (.string ⟨b.toArray⟩) := by
  have hc := hb.cells
  have hb' : SlC s 1 v b.length (bsV b) := hb
  generalize hcs : bsV b = cs at hb' hc
  generalize b.length = n at hb'
  cases hb' with
  | nil =>
    simp only [cellsOfSl] at hc
    have : b = [] := by cases b with
      | nil => rfl
      | cons x b => simp [bsV] at hcs
    subst this; rfl
  | mk h hB hc' ho hcap =>
    simp only [cellsOfSl, Nat.mul_one] at hc
    simp only [textV, hc, ← hcs, bytesOf_bsV, Option.map_some]

theorem strCells_bs {l : List UInt8} : strCells ⟨l.toArray⟩ = bsV l := rfl

theorem ba_toList (a : ByteArray) : a.toList = a.data.toList := by
  simp [ByteArray.toList_eq]

theorem slStr_0 {b : ByteArray} {kk : IntKind} {i : Int} {k : Nat} (hi : i = k) (hk : k ≤ b.size) : slStrV (.string b) none (some (.int kk i)) = some (.string (b.extract 0 k)) := by
  simp only [slStrV, bounds_lo0 hi, bounds_lh hk (Nat.zero_le _)]

end Go.Vam
