/- What an abstract state says of the machine's own: values, blocks, memory; what keeps it true. -/
import Derived.Test.YtpphomoijlilfaaVam2
import Derived.Laws.Sem
import Derived.Laws.World
import Derived.Laws.FloatArith
namespace Go.Vam
open Go
structure Loc where
  b : Nat
  sh : Nat
  tot : Nat
  sz : Nat
  fz : Nat × Nat
  elem : TypeId
abbrev Rho := Nat → Option Loc
def FR (k : FloatKind) (a a' : Nat) : Prop := a = a' ∨ (a = nanF k ∧ fisNaN k a' = true)
inductive VR (ρ : Rho) : Value → Value → Prop
  | bool (b : Bool) : VR ρ (.bool b) (.bool b)
  | int (k : IntKind) (n : Int) : VR ρ (.int k n) (.int k n)
  | float {k : FloatKind} {a a' : Nat} (h : FR k a a') : VR ρ (.float k a) (.float k a')
  | complex {k : FloatKind} {a b a' b' : Nat} (h : FR k a a') (g : FR k b b') : VR ρ (.complex k a b) (.complex k a' b')
  | string (s : ByteArray) : VR ρ (.string s) (.string s)
  | ptrNil : VR ρ (.pointer none) (.pointer none)
  | ptr {B off : Nat} {L : Loc} (h : ρ B = some L) : VR ρ (.pointer (some ⟨B, off, none⟩)) (.pointer (some ⟨L.b, L.sh + off, none⟩))
  | slNil : VR ρ (.slice none 0 0) (.slice none 0 0)
  | sl {B off len cap : Nat} {L : Loc} (h : ρ B = some L) (hc : cap < OPEN) : VR ρ (.slice (some ⟨B, off, none⟩) len cap) (.slice (some ⟨L.b, L.sh + off, none⟩) len cap)
  | slOpen {B off len cap : Nat} {L : Loc} (h : ρ B = some L) (ht : L.sh + off + cap * L.sz = L.tot) (hl : len ≤ cap) (hz : L.sz < OPEN) :
      VR ρ (.slice (some ⟨B, off, none⟩) len (OPEN + L.sz)) (.slice (some ⟨L.b, L.sh + off, none⟩) len cap)
  | slOpen0 {B off : Nat} {L : Loc} {a : Addr} (h : ρ B = some L) (hz : L.sz < OPEN) : VR ρ (.slice (some ⟨B, off, none⟩) 0 (OPEN + L.sz)) (.slice (some a) 0 0)
  | slHalf {B off len cap g : Nat} {L : Loc} (h : ρ B = some L) (ht : L.sh + off + cap * L.sz = L.tot) (hl : len ≤ g ∧ g ≤ cap) (hz : L.sz < OPEN) :
      VR ρ (.slice (some ⟨B, off, none⟩) len (OPEN * (g + 2) + L.sz)) (.slice (some ⟨L.b, L.sh + off, none⟩) len cap)
  | mapNil : VR ρ (.map none) (.map none)
  | map {B : Nat} {L : Loc} (h : ρ B = some L) : VR ρ (.map (some B)) (.map (some L.b))
  | nilFunc : VR ρ .nilFunc .nilFunc
  | func {fn : Fn} {f c f' c' : Array Value} (hf : f.toList.length = f'.toList.length) (hc : c.toList.length = c'.toList.length)
      (h : ∀ (i : Nat) (v v' : Value), f.toList[i]? = some v → f'.toList[i]? = some v' → VR ρ v v')
      (g : ∀ (i : Nat) (v v' : Value), c.toList[i]? = some v → c'.toList[i]? = some v' → VR ρ v v') : VR ρ (.func fn f c) (.func fn f' c')
  | nilIface : VR ρ .nilIface .nilIface
  | iface {t : TypeId} {v v' : Value} (h : VR ρ v v') : VR ρ (.iface t v) (.iface t v')
  | agg {xs ys : Array Value} (hl : xs.toList.length = ys.toList.length)
      (h : ∀ (i : Nat) (v v' : Value), xs.toList[i]? = some v → ys.toList[i]? = some v' → VR ρ v v') : VR ρ (.agg xs) (.agg ys)
  | tuple {xs ys : Array Value} (hl : xs.toList.length = ys.toList.length)
      (h : ∀ (i : Nat) (v v' : Value), xs.toList[i]? = some v → ys.toList[i]? = some v' → VR ρ v v') : VR ρ (.tuple xs) (.tuple ys)
def VL (ρ : Rho) (xs ys : List Value) : Prop :=
  xs.length = ys.length ∧ ∀ (i : Nat) (v v' : Value), xs[i]? = some v → ys[i]? = some v' → VR ρ v v'
def Sub (ρ ρ' : Rho) : Prop := ∀ B L, ρ B = some L → ρ' B = some L
theorem Sub.refl (ρ : Rho) : Sub ρ ρ := fun _ _ h => h
theorem Sub.trans {a b c : Rho} (h : Sub a b) (g : Sub b c) : Sub a c := fun B L x => g B L (h B L x)
theorem VR.mono {ρ ρ' : Rho} (hs : Sub ρ ρ') {v v' : Value} (h : VR ρ v v') : VR ρ' v v' := by
  induction h with
  | bool b => exact .bool b
  | int k n => exact .int k n
  | float h => exact .float h
  | complex h g => exact .complex h g
  | string s => exact .string s
  | ptrNil => exact .ptrNil
  | ptr h => exact .ptr (hs _ _ h)
  | slNil => exact .slNil
  | sl h hc => exact .sl (hs _ _ h) hc
  | slOpen h ht hl hz => exact .slOpen (hs _ _ h) ht hl hz
  | slOpen0 h hz => exact .slOpen0 (hs _ _ h) hz
  | slHalf h ht hl hz => exact .slHalf (hs _ _ h) ht hl hz
  | mapNil => exact .mapNil
  | map h => exact .map (hs _ _ h)
  | nilFunc => exact .nilFunc
  | func hf hc _ _ ih ig => exact .func hf hc ih ig
  | nilIface => exact .nilIface
  | iface _ ih => exact .iface ih
  | agg hl _ ih => exact .agg hl ih
  | tuple hl _ ih => exact .tuple hl ih
theorem VL.mono {ρ ρ' : Rho} (hs : Sub ρ ρ') {xs ys : List Value} (h : VL ρ xs ys) : VL ρ' xs ys :=
  ⟨h.1, fun i v v' a b => (h.2 i v v' a b).mono hs⟩
theorem VL.nil (ρ : Rho) : VL ρ [] [] := ⟨rfl, fun i v v' h => by simp at h⟩
theorem VL.cons {ρ : Rho} {x y : Value} {xs ys : List Value} (h : VR ρ x y) (g : VL ρ xs ys) : VL ρ (x :: xs) (y :: ys) := by
  refine ⟨by simp [g.1], fun i v v' a b => ?_⟩
  cases i with
  | zero => simp at a b; subst a; subst b; exact h
  | succ i => simp at a b; exact g.2 i v v' a b
theorem VL.head {ρ : Rho} {x y : Value} {xs ys : List Value} (h : VL ρ (x :: xs) (y :: ys)) : VR ρ x y := h.2 0 x y (by simp) (by simp)
theorem VL.tail {ρ : Rho} {x y : Value} {xs ys : List Value} (h : VL ρ (x :: xs) (y :: ys)) : VL ρ xs ys :=
  ⟨by simpa using h.1, fun i v v' a b => h.2 (i + 1) v v' (by simpa using a) (by simpa using b)⟩
theorem VL.cases_cons {ρ : Rho} {x : Value} {xs zs : List Value} (h : VL ρ (x :: xs) zs) : ∃ y ys, zs = y :: ys ∧ VR ρ x y ∧ VL ρ xs ys := by
  cases zs with
  | nil => have := h.1; simp at this
  | cons y ys => exact ⟨y, ys, rfl, h.head, h.tail⟩
theorem VL.cases_nil {ρ : Rho} {zs : List Value} (h : VL ρ [] zs) : zs = [] := by
  cases zs with
  | nil => rfl
  | cons y ys => have := h.1; simp at this
theorem VL.append {ρ : Rho} {a b : List Value} (h : VL ρ a b) : ∀ {c d : List Value}, VL ρ c d → VL ρ (a ++ c) (b ++ d) := by
  induction a generalizing b with
  | nil => intro c d g; rw [h.cases_nil]; exact g
  | cons x xs ih =>
    intro c d g
    obtain ⟨y, ys, rfl, h1, h2⟩ := h.cases_cons
    exact .cons h1 (ih h2 g)
theorem VL.drop {ρ : Rho} {a b : List Value} (h : VL ρ a b) (n : Nat) : VL ρ (a.drop n) (b.drop n) :=
  ⟨by simp [h.1], fun i v v' x y => h.2 (n + i) v v' (by simpa using x) (by simpa using y)⟩
theorem VL.take {ρ : Rho} {a b : List Value} (h : VL ρ a b) (n : Nat) : VL ρ (a.take n) (b.take n) := by
  refine ⟨by simp [h.1], fun i v v' x y => ?_⟩
  rw [List.getElem?_take] at x y
  split at x
  · rename_i hi; rw [if_pos hi] at y; exact h.2 i v v' x y
  · simp at x
theorem VL.get {ρ : Rho} {a b : List Value} (h : VL ρ a b) {i : Nat} {v : Value} (x : a[i]? = some v) : ∃ v', b[i]? = some v' ∧ VR ρ v v' := by
  have hi : i < b.length := by
    have := (List.getElem?_eq_some_iff.1 x).1
    have := h.1; omega
  exact ⟨b[i], by simp [hi], h.2 i v _ x (by simp [hi])⟩
theorem VL.of_agg {ρ : Rho} {xs : Array Value} {v : Value} (h : VR ρ (.agg xs) v) : ∃ ys : Array Value, v = .agg ys ∧ VL ρ xs.toList ys.toList := by
  cases h with
  | agg hl h => exact ⟨_, rfl, hl, h⟩
theorem VL.agg {ρ : Rho} {xs ys : Array Value} (h : VL ρ xs.toList ys.toList) : VR ρ (.agg xs) (.agg ys) := .agg h.1 h.2
theorem VL.tup {ρ : Rho} {xs ys : Array Value} (h : VL ρ xs.toList ys.toList) : VR ρ (.tuple xs) (.tuple ys) := .tuple h.1 h.2
theorem VR.undef {ρ : Rho} : VR ρ undefV undef := .tuple rfl (fun i v v' h => by simp at h)
theorem VR.cells {ρ : Rho} {v v' : Value} (h : VR ρ v v') : VL ρ v.cells.toList v'.cells.toList := by
  cases h with
  | agg hl h => exact ⟨hl, h⟩
  | bool b => exact .cons (.bool b) (.nil ρ)
  | int k n => exact .cons (.int k n) (.nil ρ)
  | float h => exact .cons (.float h) (.nil ρ)
  | complex h g => exact .cons (.complex h g) (.nil ρ)
  | string s => exact .cons (.string s) (.nil ρ)
  | ptrNil => exact .cons .ptrNil (.nil ρ)
  | ptr h => exact .cons (.ptr h) (.nil ρ)
  | slNil => exact .cons .slNil (.nil ρ)
  | sl h hc => exact .cons (.sl h hc) (.nil ρ)
  | slOpen h ht hl hz => exact .cons (.slOpen h ht hl hz) (.nil ρ)
  | slOpen0 h hz => exact .cons (.slOpen0 h hz) (.nil ρ)
  | slHalf h ht hl hz => exact .cons (.slHalf h ht hl hz) (.nil ρ)
  | mapNil => exact .cons .mapNil (.nil ρ)
  | map h => exact .cons (.map h) (.nil ρ)
  | nilFunc => exact .cons .nilFunc (.nil ρ)
  | func hf hc h g => exact .cons (.func hf hc h g) (.nil ρ)
  | nilIface => exact .cons .nilIface (.nil ρ)
  | iface h => exact .cons (.iface h) (.nil ρ)
  | tuple hl h => exact .cons (.tuple hl h) (.nil ρ)
theorem VR.oneCell {ρ : Rho} {v v' : Value} (h : VR ρ v v') : Vam.oneCell v' = Vam.oneCell v := by
  cases h <;> rfl
mutual
theorem VR.const {ρ : Rho} : ∀ (v : Value), constOk v = true → VR ρ v v
  | .bool b, _ => .bool b
  | .int k n, _ => .int k n
  | .string s, _ => .string s
  | .nilFunc, _ => .nilFunc
  | .nilIface, _ => .nilIface
  | .float k b, _ => .float (.inl rfl)
  | .complex k a b, _ => .complex (.inl rfl) (.inl rfl)
  | .pointer none, _ => .ptrNil
  | .map none, _ => .mapNil
  | .slice none 0 0, _ => .slNil
  | .agg cs, h => (VL.constA cs (by simpa [constOk] using h)).agg
  | .tuple cs, h => (VL.constA cs (by simpa [constOk] using h)).tup
  | .pointer (some _), h => by simp [constOk] at h
  | .map (some _), h => by simp [constOk] at h
  | .slice (some _) _ _, h => by simp [constOk] at h
  | .slice none (_ + 1) _, h => by simp [constOk] at h
  | .slice none 0 (_ + 1), h => by simp [constOk] at h
  | .chan _, h => by simp [constOk] at h
  | .func .., h => by simp [constOk] at h
  | .iface .., h => by simp [constOk] at h
theorem VL.constA {ρ : Rho} : ∀ (cs : Array Value), constOkA cs = true → VL ρ cs.toList cs.toList
  | ⟨l⟩, h => VL.constL l (by simpa [constOkA] using h)
theorem VL.constL {ρ : Rho} : ∀ (l : List Value), constOkL l = true → VL ρ l l
  | [], _ => .nil ρ
  | v :: l, h => by
    simp [constOkL] at h
    exact .cons (VR.const v h.1) (VL.constL l h.2)
end
def EsR (ρ : Rho) (es : List (Value × Value × Nat)) (es' : List MapEntry) : Prop :=
  es.length = es'.length ∧ ∀ (i : Nat) (e : Value × Value × Nat) (e' : MapEntry), es[i]? = some e → es'[i]? = some e' →
    VR ρ e.1 e'.key ∧ VR ρ e.2.1 e'.val ∧ e.2.2 = e'.born
def BR (ρ : Rho) (L : Loc) (w : World) : ABlk → Prop
  | .cells cs _ => ∃ c : Array Value, w.heap[L.b]? = some (.cells c L.elem L.fz) ∧ c.size = L.tot ∧ (L.fz.1 = L.fz.2 ∨ L.tot ≤ L.fz.1) ∧
      L.sh + cs.length ≤ L.tot ∧ ∀ (i : Nat) (v : Value), cs[i]? = some v → ∃ v', c[L.sh + i]? = some v' ∧ VR ρ v v'
  | .ro cs => ∃ (c : Array Value) (e : TypeId) (fz : Nat × Nat), w.heap[L.b]? = some (.cells c e fz) ∧ L.sh + cs.length ≤ c.size ∧
      ∀ (i : Nat) (v : Value), cs[i]? = some v → ∃ v', c[L.sh + i]? = some v' ∧ VR ρ v v'
  | .map es ck => ∃ es' : Array MapEntry, w.heap[L.b]? = some (.map es' ck) ∧ EsR ρ es es'.toList
  | .iter s pos => w.heap[L.b]? = some (.stringIter s pos)
theorem EsR.mono {ρ ρ' : Rho} (hs : Sub ρ ρ') {es : List (Value × Value × Nat)} {es' : List MapEntry} (h : EsR ρ es es') : EsR ρ' es es' :=
  ⟨h.1, fun i e e' a b => let ⟨x, y, z⟩ := h.2 i e e' a b; ⟨x.mono hs, y.mono hs, z⟩⟩
theorem BR.mono {ρ ρ' : Rho} (hs : Sub ρ ρ') {L : Loc} {w : World} {b : ABlk} (h : BR ρ L w b) : BR ρ' L w b := by
  cases b with
  | cells cs o =>
    obtain ⟨c, h1, h2, h3, h4, h5⟩ := h
    exact ⟨c, h1, h2, h3, h4, fun i v hv => let ⟨v', a, b⟩ := h5 i v hv; ⟨v', a, b.mono hs⟩⟩
  | ro cs =>
    obtain ⟨c, e, fz, h1, h2, h3⟩ := h
    exact ⟨c, e, fz, h1, h2, fun i v hv => let ⟨v', a, b⟩ := h3 i v hv; ⟨v', a, b.mono hs⟩⟩
  | map es ck => obtain ⟨es', h1, h2⟩ := h; exact ⟨es', h1, h2.mono hs⟩
  | iter s pos => exact h
theorem BR.of_block {ρ : Rho} {L : Loc} {w w' : World} {b : ABlk} (h : BR ρ L w b) (hw : w'.heap[L.b]? = w.heap[L.b]?) : BR ρ L w' b := by
  cases b with
  | cells cs o => obtain ⟨c, h1, h2⟩ := h; exact ⟨c, by rw [hw]; exact h1, h2⟩
  | ro cs => obtain ⟨c, e, fz, h1, h2⟩ := h; exact ⟨c, e, fz, by rw [hw]; exact h1, h2⟩
  | map es ck => obtain ⟨es', h1, h2⟩ := h; exact ⟨es', by rw [hw]; exact h1, h2⟩
  | iter s pos => exact hw.trans h
section
variable {H : Type} [Store H ABlk]
def Rw (s : AS H) (B : Nat) : Prop := ∃ k, Store.get s.h B = some k ∧ k.rw = true
structure Rep (ρ : Rho) (s : AS H) (w : World) : Prop where
  blk : ∀ B b, Store.get s.h B = some b → ∃ L, ρ B = some L ∧ BR ρ L w b
  inj : ∀ B B' L L', Rw s B → (Store.get s.h B').isSome → ρ B = some L → ρ B' = some L' → L.b = L'.b → B = B'
  fresh : ∀ B, s.nxt ≤ B → ρ B = none
  lt : ∀ B L, ρ B = some L → L.b < w.heap.size
structure Ext (ρ : Rho) (s : AS H) (w : World) (ρ' : Rho) (s' : AS H) (w' : World) : Prop where
  nxt : s.nxt ≤ s'.nxt
  keep : ∀ B, B < s.nxt → ρ' B = ρ B
  os : w'.os = w.os
  tape : w'.tape = w.tape
  output : w'.output = w.output
  size : w.heap.size ≤ w'.heap.size
  frame : ∀ b, b < w.heap.size → (∀ B L, Rw s B → ρ B = some L → L.b ≠ b) → w'.heap[b]? = w.heap[b]?
  img : ∀ B L, Rw s' B → ρ' B = some L → w.heap.size ≤ L.b ∨ ∃ B0 L0, Rw s B0 ∧ ρ B0 = some L0 ∧ L0.b = L.b
  ros : ∀ B cs, Store.get s'.h B = some (.ro cs) → Store.get s.h B = some (.ro cs)
theorem Ext.refl (ρ : Rho) (s : AS H) (w : World) : Ext ρ s w ρ s w :=
  ⟨Nat.le_refl _, fun _ _ => rfl, rfl, rfl, rfl, Nat.le_refl _, fun _ _ _ => rfl, fun B L h g => .inr ⟨B, L, h, g, rfl⟩, fun _ _ h => h⟩
theorem Ext.trans {ρ ρ₁ ρ₂ : Rho} {s s₁ s₂ : AS H} {w w₁ w₂ : World} (h : Ext ρ s w ρ₁ s₁ w₁) (g : Ext ρ₁ s₁ w₁ ρ₂ s₂ w₂) : Ext ρ s w ρ₂ s₂ w₂ where
  nxt := Nat.le_trans h.nxt g.nxt
  keep := fun B hB => (g.keep B (Nat.lt_of_lt_of_le hB h.nxt)).trans (h.keep B hB)
  os := g.os.trans h.os
  tape := g.tape.trans h.tape
  output := g.output.trans h.output
  size := Nat.le_trans h.size g.size
  frame := fun b hb hu => by
    rw [g.frame b (Nat.lt_of_lt_of_le hb h.size) ?_, h.frame b hb hu]
    intro B L hB hL
    rcases h.img B L hB hL with x | ⟨B0, L0, x, y, z⟩
    · omega
    · rw [← z]; exact hu B0 L0 x y
  img := fun B L hB hL => by
    rcases g.img B L hB hL with x | ⟨B0, L0, x, y, z⟩
    · exact .inl (Nat.le_trans h.size x)
    · rcases h.img B0 L0 x y with x' | ⟨B1, L1, x', y', z'⟩
      · exact .inl (by omega)
      · exact .inr ⟨B1, L1, x', y', by omega⟩
  ros := fun B cs hB => h.ros B cs (g.ros B cs hB)
theorem Rep.sub {ρ ρ' : Rho} {s s' : AS H} {w w' : World} (h : Rep ρ s w) (e : Ext ρ s w ρ' s' w') : Sub ρ ρ' := fun B L hB => by
  rw [e.keep B ?_]; exact hB
  rcases Nat.lt_or_ge B s.nxt with x | x
  · exact x
  · rw [h.fresh B x] at hB; cases hB
structure Quiet (w w' : World) : Prop where
  heap : w'.heap = w.heap
  os : w'.os = w.os
  tape : w'.tape = w.tape
  output : w'.output = w.output
theorem Quiet.refl (w : World) : Quiet w w := ⟨rfl, rfl, rfl, rfl⟩
theorem Quiet.trans {a b c : World} (h : Quiet a b) (g : Quiet b c) : Quiet a c :=
  ⟨g.heap.trans h.heap, g.os.trans h.os, g.tape.trans h.tape, g.output.trans h.output⟩
theorem Quiet.drew (w : World) : Quiet w w.drew := ⟨rfl, rfl, rfl, rfl⟩
theorem Rep.quiet {ρ : Rho} {s : AS H} {w w' : World} (h : Rep ρ s w) (q : Quiet w w') : Rep ρ s w' where
  blk := fun B b hB => let ⟨L, x, y⟩ := h.blk B b hB; ⟨L, x, y.of_block (by rw [q.heap])⟩
  inj := h.inj
  fresh := h.fresh
  lt := fun B L hB => by rw [q.heap]; exact h.lt B L hB
theorem Ext.quiet {ρ : Rho} {s : AS H} {w w' : World} (q : Quiet w w') : Ext ρ s w ρ s w' :=
  ⟨Nat.le_refl _, fun _ _ => rfl, q.os, q.tape, q.output, by rw [q.heap]; exact Nat.le_refl _, fun _ _ _ => by rw [q.heap], fun B L h g => .inr ⟨B, L, h, g, rfl⟩, fun _ _ h => h⟩
theorem Rep.weaken {ρ : Rho} {s s' : AS H} {w : World} (h : Rep ρ s w) (hn : s.nxt ≤ s'.nxt)
    (hs : ∀ B b, Store.get s'.h B = some b → Store.get s.h B = some b) : Rep ρ s' w where
  blk := fun B b hB => h.blk B b (hs B b hB)
  inj := fun B B' L L' x y => h.inj B B' L L' (by
      obtain ⟨b, hb, hr⟩ := x
      exact ⟨b, hs B b hb, hr⟩) (by
      obtain ⟨b, hb⟩ := Option.isSome_iff_exists.1 y
      simp [hs B' b hb])
  fresh := fun B hB => h.fresh B (Nat.le_trans hn hB)
  lt := h.lt
theorem Rep.inj' {ρ : Rho} {s : AS H} {w : World} (h : Rep ρ s w) {B x : Nat} {L Lx : Loc} {k kx : ABlk} (hg : Store.get s.h B = some k) (hk : k.rw = true) (hx : Store.get s.h x = some kx)
    (hL : ρ B = some L) (px : ρ x = some Lx) (eb : Lx.b = L.b) : x = B := (h.inj B x L Lx ⟨k, hg, hk⟩ (by rw [hx]; rfl) hL px eb.symm).symm
theorem cell_get {w : World} {b off : Nat} {c : Array Value} {e : TypeId} {fz : Nat × Nat} (h : w.heap[b]? = some (.cells c e fz)) :
    w.cell? ⟨b, off, none⟩ = c[off]? := by simp [World.cell?, h]
theorem not_frozen {w : World} {b off : Nat} {c : Array Value} {e : TypeId} {fz : Nat × Nat} (h : w.heap[b]? = some (.cells c e fz))
    (hz : fz.1 = fz.2 ∨ c.size ≤ fz.1) (ho : off < c.size) : w.frozen? ⟨b, off, none⟩ = false := by
  simp only [World.frozen?, h]
  rcases hz with hz | hz
  · simp only [Bool.and_eq_false_iff, decide_eq_false_iff_not]; omega
  · simp only [Bool.and_eq_false_iff, decide_eq_false_iff_not]; omega
theorem Rep.cell {ρ : Rho} {s : AS H} {w : World} (h : Rep ρ s w) {B off : Nat} {L : Loc} {v : Value} (hL : ρ B = some L) (hc : cellAt s ⟨B, off, none⟩ = some v) :
    ∃ v', w.cell? ⟨L.b, L.sh + off, none⟩ = some v' ∧ VR ρ v v' := by
  unfold cellAt at hc
  split at hc
  · rename_i cs o hg
    simp at hc
    obtain ⟨L', h1, c, h2, _, _, _, h6⟩ := h.blk _ _ hg
    rw [hL] at h1; cases h1
    obtain ⟨v', h7, h8⟩ := h6 _ _ hc
    exact ⟨v', by rw [cell_get h2]; exact h7, h8⟩
  · rename_i cs hg
    simp at hc
    obtain ⟨L', h1, c, e, fz, h2, _, h6⟩ := h.blk _ _ hg
    rw [hL] at h1; cases h1
    obtain ⟨v', h7, h8⟩ := h6 _ _ hc
    exact ⟨v', by rw [cell_get h2]; exact h7, h8⟩
  · cases hc
theorem cellsAt_spec {s : AS H} {B off n : Nat} {vs : List Value} (h : cellsAt s ⟨B, off, none⟩ n = some vs) :
    ∃ cs, ((∃ o, Store.get s.h B = some (.cells cs o)) ∨ Store.get s.h B = some (.ro cs)) ∧ off + n ≤ cs.length ∧ vs = (cs.drop off).take n := by
  unfold cellsAt at h
  split at h
  · rename_i cs o hg
    simp at h
    exact ⟨cs, .inl ⟨o, hg⟩, h.1, h.2.symm⟩
  · rename_i cs hg
    simp at h
    exact ⟨cs, .inr hg, h.1, h.2.symm⟩
  · cases h
theorem Rep.cells {ρ : Rho} {s : AS H} {w : World} (h : Rep ρ s w) {B off n : Nat} {L : Loc} {vs : List Value} (hL : ρ B = some L) (hc : cellsAt s ⟨B, off, none⟩ n = some vs) :
    ∃ (c : Array Value) (e : TypeId) (fz : Nat × Nat), w.heap[L.b]? = some (.cells c e fz) ∧ L.sh + off + n ≤ c.size ∧ vs.length = n ∧ VL ρ vs ((c.toList.drop (L.sh + off)).take n) := by
  obtain ⟨cs, hg, hl, rfl⟩ := cellsAt_spec hc
  have key : ∃ (c : Array Value) (e : TypeId) (fz : Nat × Nat), w.heap[L.b]? = some (.cells c e fz) ∧ L.sh + cs.length ≤ c.size ∧ ∀ (i : Nat) (v : Value), cs[i]? = some v → ∃ v', c[L.sh + i]? = some v' ∧ VR ρ v v' := by
    rcases hg with ⟨o, hg⟩ | hg
    · obtain ⟨L', h1, c, h2, h3, _, h5, h6⟩ := h.blk _ _ hg
      rw [hL] at h1; cases h1
      exact ⟨c, _, _, h2, by omega, h6⟩
    · obtain ⟨L', h1, c, e, fz, h2, h5, h6⟩ := h.blk _ _ hg
      rw [hL] at h1; cases h1
      exact ⟨c, e, fz, h2, h5, h6⟩
  obtain ⟨c, e, fz, h2, h5, h6⟩ := key
  refine ⟨c, e, fz, h2, by omega, by simp; omega, by simp; omega, fun i v v' a b => ?_⟩
  rw [List.getElem?_take] at a b
  split at a
  · rename_i hi
    rw [if_pos hi] at b
    rw [List.getElem?_drop] at a b
    obtain ⟨u, x, y⟩ := h6 _ _ a
    have e : L.sh + off + i = L.sh + (off + i) := by omega
    rw [e] at b
    rw [← Array.getElem?_toList] at x
    rw [x] at b; cases b
    exact y
  · cases a
theorem run_loadCellsFrom (P : Program) (w : World) (b off : Nat) (c : Array Value) (e : TypeId) (fz : Nat × Nat) (h : w.heap[b]? = some (.cells c e fz)) :
    ∀ (n i : Nat) (acc : Array Value), off + i + n ≤ c.size →
    (loadCellsFrom ⟨b, off, none⟩ i n acc).run P w = .ok (acc ++ ((c.toList.drop (off + i)).take n).toArray) w := by
  intro n
  induction n with
  | zero => intro i acc _; simp [loadCellsFrom]
  | succ n ih =>
    intro i acc hl
    have ha : (Addr.add ⟨b, off, none⟩ i) = ⟨b, off + i, none⟩ := by
      unfold Addr.add; split
      · rename_i h0; subst h0; rfl
      · rfl
    have hc : w.cell? ⟨b, off + i, none⟩ = some c[off + i] := by rw [cell_get h]; simp
    have hd : (c.toList.drop (off + i)) = c[off + i] :: c.toList.drop (off + (i + 1)) := by
      rw [List.drop_eq_getElem_cons (by simp; omega)]; simp [Nat.add_assoc]
    simp only [loadCellsFrom, Sem.run_bind, ha, run_load, hc, Result.andThen_ok]
    rw [ih (i + 1) _ (by omega), hd]
    simp
theorem run_loadCells (P : Program) (w : World) (b off n : Nat) (c : Array Value) (e : TypeId) (fz : Nat × Nat) (h : w.heap[b]? = some (.cells c e fz)) (hl : off + n ≤ c.size) :
    (loadCells ⟨b, off, none⟩ n).run P w = .ok ((c.toList.drop off).take n).toArray w := by
  unfold loadCells
  rw [run_loadCellsFrom P w b off c e fz h n 0 #[] (by omega)]
  simp
theorem putL_length (cs : List Value) : ∀ (off : Nat) (vs : List Value), (putL cs off vs).length = cs.length := by
  induction cs with
  | nil => intro off vs; cases vs <;> simp [putL]
  | cons c cs ih =>
    intro off vs
    cases vs with
    | nil => simp [putL]
    | cons v vs => cases off with
      | zero => simp [putL, ih]
      | succ n => simp [putL, ih]
theorem putL_get (cs : List Value) : ∀ (off : Nat) (vs : List Value) (i : Nat), off + vs.length ≤ cs.length →
    (putL cs off vs)[i]? = if off ≤ i ∧ i < off + vs.length then vs[i - off]? else cs[i]? := by
  induction cs with
  | nil =>
    intro off vs i h
    simp at h
    obtain ⟨rfl, rfl⟩ : off = 0 ∧ vs = [] := ⟨by omega, by cases vs <;> simp_all⟩
    simp [putL]
  | cons c cs ih =>
    intro off vs i h
    cases vs with
    | nil => simp [putL]; omega
    | cons v vs =>
      cases off with
      | zero =>
        simp only [putL]
        cases i with
        | zero => simp
        | succ i =>
          have := ih 0 vs i (by simp at h ⊢; omega)
          simp only [List.getElem?_cons_succ, this]
          simp
      | succ n =>
        simp only [putL]
        cases i with
        | zero => simp
        | succ i =>
          have := ih n (v :: vs) i (by simp at h ⊢; omega)
          simp only [List.getElem?_cons_succ, this]
          have e : (i + 1 - (n + 1)) = i - n := by omega
          rw [e]
          by_cases hh : n ≤ i ∧ i < n + (v :: vs).length
          · rw [if_pos hh, if_pos (by omega)]
          · rw [if_neg hh, if_neg (by omega)]
theorem run_storeCells (P : Program) (b off : Nat) (e : TypeId) (fz : Nat × Nat) : ∀ (vs : List Value) (i : Nat) (w : World) (c : Array Value),
    w.heap[b]? = some (.cells c e fz) → (fz.1 = fz.2 ∨ c.size ≤ fz.1) → off + i + vs.length ≤ c.size → vs.all oneCell = true →
    ∃ w' c', (storeCells ⟨b, off, none⟩ vs i).run P w = .ok () w' ∧ w'.heap[b]? = some (.cells c' e fz) ∧ c'.toList = putL c.toList (off + i) vs ∧
      w'.os = w.os ∧ w'.tape = w.tape ∧ w'.output = w.output ∧ w'.heap.size = w.heap.size ∧ ∀ b', b' ≠ b → w'.heap[b']? = w.heap[b']? := by
  intro vs
  induction vs with
  | nil =>
    intro i w c h _ _ _
    refine ⟨w, c, by simp [storeCells], h, ?_, rfl, rfl, rfl, rfl, fun _ _ => rfl⟩
    cases c.toList <;> simp [putL]
  | cons v vs ih =>
    intro i w c h hz hl ho
    simp only [List.all_cons, Bool.and_eq_true] at ho
    simp only [List.length_cons] at hl
    have ha : (Addr.add ⟨b, off, none⟩ i) = ⟨b, off + i, none⟩ := by
      unfold Addr.add; split
      · rename_i h0; subst h0; rfl
      · rfl
    have hc : w.cell? ⟨b, off + i, none⟩ = some c[off + i] := by rw [cell_get h]; simp
    have hfr := not_frozen (off := off + i) h hz (by omega)
    have hst : (store ⟨b, off + i, none⟩ v).run P w = .ok () (w.setCell ⟨b, off + i, none⟩ v) := by
      unfold store
      cases v <;> simp [oneCell] at ho <;> simp [Sem.run, hc, hfr]
    have hb : (w.setCell ⟨b, off + i, none⟩ v).heap[b]? = some (.cells (c.setIfInBounds (off + i) v) e fz) := by
      simp [World.setCell, Array.getElem?_modify, h]
    obtain ⟨w', c', r1, r2, r3, r4, r5, r6, r7, r8⟩ := ih (i + 1) _ _ hb (by simpa using hz) (by simp; omega) ho.2
    refine ⟨w', c', ?_, r2, ?_, r4, r5, r6, by rw [r7]; simp, fun b' hb' => ?_⟩
    · simp only [storeCells, Sem.run_bind, ha, hst, Result.andThen_ok]
      exact r1
    · rw [r3]
      have hlen : (putL (c.setIfInBounds (off + i) v).toList (off + (i + 1)) vs).length = (putL c.toList (off + i) (v :: vs)).length := by
        simp [putL_length]
      apply List.ext_getElem? 
      intro j
      rw [putL_get _ _ _ _ (by simp; omega), putL_get _ _ _ _ (by simp; omega)]
      simp only [List.length_cons]
      by_cases h1 : off + (i + 1) ≤ j ∧ j < off + (i + 1) + vs.length
      · rw [if_pos h1, if_pos (by omega)]
        have : j - (off + i) = (j - (off + (i + 1))) + 1 := by omega
        rw [this]; simp
      · rw [if_neg h1]
        by_cases h2 : j = off + i
        · subst h2
          rw [if_pos (by omega), Array.toList_setIfInBounds, List.getElem?_set_self (by simp; omega)]
          simp
        · rw [if_neg (by omega), Array.toList_setIfInBounds, List.getElem?_set_ne (by omega)]
    · rw [r8 b' hb']
      simp [World.setCell, Array.getElem?_modify, Ne.symm hb']
theorem getElem?_of_toList {c : Array Value} {l : List Value} (h : c.toList = l) (i : Nat) : c[i]? = l[i]? := by
  rw [← h, Array.getElem?_toList]
theorem putL_off {ρ : Rho} {cs vs vs' : List Value} {c c' : Array Value} {sh off : Nat} (hl : off + vs.length ≤ cs.length) (hsz : sh + cs.length ≤ c.size)
    (hcs : ∀ (i : Nat) (v : Value), cs[i]? = some v → ∃ v', c[sh + i]? = some v' ∧ VR ρ v v') (hv : VL ρ vs vs') (hc' : c'.toList = putL c.toList (sh + off) vs') :
    ∀ (i : Nat) (v : Value), (putL cs off vs)[i]? = some v → ∃ v', c'[sh + i]? = some v' ∧ VR ρ v v' := by
  intro i v hi
  rw [putL_get _ _ _ _ hl] at hi
  have hvl := hv.1
  rw [getElem?_of_toList hc', putL_get _ _ _ _ (by simp; omega)]
  split at hi
  · rename_i h1
    rw [if_pos (by omega)]
    have : sh + i - (sh + off) = i - off := by omega
    rw [this]
    exact hv.get hi
  · rename_i h1
    rw [if_neg (by omega), Array.getElem?_toList]
    exact hcs i v hi
theorem Rep.store {ρ : Rho} {s s' : AS H} {w : World} (P : Program) (h : Rep ρ s w) {B off : Nat} {L : Loc} {vs vs' : List Value} (hL : ρ B = some L)
    (hp : putCells s ⟨B, off, none⟩ vs = some s') (hv : VL ρ vs vs') :
    ∃ w', (storeCells ⟨L.b, L.sh + off, none⟩ vs').run P w = .ok () w' ∧ Rep ρ s' w' ∧ Ext ρ s w ρ s' w' ∧ s'.nxt = s.nxt ∧
      (∀ B', (Store.get s'.h B').isSome = (Store.get s.h B').isSome) := by
  unfold putCells at hp
  split at hp
  · rename_i cs o hg
    simp at hp
    obtain ⟨hl, ho, rfl⟩ := hp
    obtain ⟨L', h1, c, h2, h3, h4, h5, h6⟩ := h.blk _ _ hg
    rw [hL] at h1; cases h1
    have hone : vs'.all oneCell = true := by
      rw [List.all_eq_true]
      intro x hx
      obtain ⟨i, hi⟩ := List.mem_iff_getElem?.1 hx
      have hlen := hv.1
      have hi' : i < vs.length := by have := (List.getElem?_eq_some_iff.1 hi).1; omega
      have := hv.2 i vs[i] x (by simp [hi']) hi
      rw [this.oneCell]
      exact ho _ (List.getElem_mem hi')
    obtain ⟨w', c', r1, r2, r3, r4, r5, r6, r7, r8⟩ := run_storeCells P L.b (L.sh + off) L.elem L.fz vs' 0 w c h2 (by rw [h3]; exact h4)
      (by rw [← hv.1]; simp at hl ⊢; omega) hone
    have hsome : ∀ B', (Store.get (Store.put s.h B (some (ABlk.cells (putL cs off vs) o))) B').isSome = (Store.get s.h B').isSome := by
      intro B'
      rw [Store.get_put]
      split
      · rename_i e; rw [e, hg]; rfl
      · rfl
    have hrw : ∀ B', Rw ({ s with h := Store.put s.h B (some (ABlk.cells (putL cs off vs) o)) } : AS H) B' → Rw s B' := by
      rintro B' ⟨k, hk, hkr⟩
      simp only [Store.get_put] at hk
      split at hk
      · rename_i e; rw [e]; exact ⟨_, hg, rfl⟩
      · exact ⟨k, hk, hkr⟩
    refine ⟨w', r1, ⟨?_, ?_, h.fresh, fun B' L' hB => by rw [r7]; exact h.lt B' L' hB⟩, ⟨Nat.le_refl _, fun _ _ => rfl, r4, r5, r6, by rw [r7]; exact Nat.le_refl _, ?_, ?_, ?_⟩, rfl, hsome⟩
    · intro B' b hB
      simp only [Store.get_put] at hB
      split at hB
      · rename_i e
        cases hB
        subst e
        refine ⟨L, hL, c', r2, ?_, ?_, by simpa [putL_length] using h5, ?_⟩
        · have := congrArg List.length r3; simp [putL_length] at this; rw [this]; exact h3
        · exact h4
        · exact putL_off (by simpa using hl) (by rw [h3]; exact h5) h6 hv (by simpa using r3)
      · rename_i ne
        obtain ⟨L', x, y⟩ := h.blk _ _ hB
        refine ⟨L', x, y.of_block (r8 _ fun e => ne (h.inj' hg rfl hB hL x e))⟩
    · intro B1 B2 L1 L2 x y
      simp only [hsome] at y
      exact h.inj B1 B2 L1 L2 (hrw B1 x) y
    · intro b _ hu
      exact r8 b fun e => hu B L ⟨_, hg, rfl⟩ hL e.symm
    · intro B1 L1 x y
      exact .inr ⟨B1, L1, hrw B1 x, y, rfl⟩
    · intro B1 cs1 x
      simp only [Store.get_put] at x
      split at x
      · cases x
      · exact x
  · cases hp
def upd (ρ : Rho) (B : Nat) (L : Loc) : Rho := fun x => if x = B then some L else ρ x
theorem Sub.upd {ρ : Rho} {B : Nat} (L : Loc) (h : ρ B = none) : Sub ρ (upd ρ B L) := fun x L' hx => by
  unfold Vam.upd; split
  · rename_i e; rw [e, h] at hx; cases hx
  · exact hx
theorem Rep.newAt {ρ : Rho} {s s' : AS H} {w w' : World} (h : Rep ρ s w) {B : Nat} {L : Loc} {b : ABlk} (hf : ρ B = none) (hB : B < s'.nxt) (hn : s.nxt ≤ s'.nxt)
    (hs : ∀ x, Store.get s'.h x = if x = B then some b else Store.get s.h x)
    (hL : L.b = w.heap.size) (hsz : w'.heap.size = w.heap.size + 1) (hw : ∀ k, k < w.heap.size → w'.heap[k]? = w.heap[k]?)
    (hb : BR (upd ρ B L) L w' b) (hos : w'.os = w.os) (htp : w'.tape = w.tape) (hout : w'.output = w.output) (hkeep : b.rw = true) :
    Rep (upd ρ B L) s' w' ∧ (s.nxt ≤ B → Ext ρ s w (upd ρ B L) s' w') := by
  have hsub := Sub.upd L hf
  have hnone : Store.get s.h B = none := by
    cases hg : Store.get s.h B with
    | none => rfl
    | some x => obtain ⟨L', x, _⟩ := h.blk B x hg; rw [hf] at x; cases x
  refine ⟨⟨?_, ?_, ?_, ?_⟩, fun hB' => ⟨hn, ?_, hos, htp, hout, by omega, fun k hk _ => hw k hk, ?_, ?_⟩⟩
  · intro x y hx
    rw [hs] at hx
    split at hx
    · rename_i e; cases hx; subst e
      exact ⟨L, by simp [upd], hb⟩
    · rename_i ne
      obtain ⟨L', p, q⟩ := h.blk _ _ hx
      exact ⟨L', hsub _ _ p, (q.of_block (hw _ (h.lt _ _ p))).mono hsub⟩
  · intro x y Lx Ly hx hy px py e
    obtain ⟨kx, hx, hkx⟩ := hx
    rw [hs] at hx hy
    unfold upd at px py
    by_cases ex : x = B
    · by_cases ey : y = B
      · rw [ex, ey]
      · rw [if_pos ex] at px; rw [if_neg ey] at py; cases px
        have := h.lt _ _ py; omega
    · by_cases ey : y = B
      · rw [if_neg ex] at px; rw [if_pos ey] at py; cases py
        have := h.lt _ _ px; omega
      · rw [if_neg ex] at px hx; rw [if_neg ey] at py hy
        exact h.inj x y Lx Ly ⟨kx, hx, hkx⟩ hy px py e
  · intro x hx
    unfold upd
    rw [if_neg (by omega)]
    exact h.fresh x (by omega)
  · intro x Lx px
    unfold upd at px
    split at px
    · cases px; omega
    · have := h.lt _ _ px; omega
  · intro x hx
    unfold upd
    rw [if_neg (by omega)]
  · intro x Lx hx px
    unfold upd at px
    split at px
    · cases px; left; omega
    · rename_i ne
      obtain ⟨kx, hx, hkx⟩ := hx
      rw [hs, if_neg ne] at hx
      exact .inr ⟨x, Lx, ⟨kx, hx, hkx⟩, px, rfl⟩
  · intro x cs hx
    rw [hs] at hx
    split at hx
    · cases hx; cases hkeep
    · exact hx
end
end Go.Vam
