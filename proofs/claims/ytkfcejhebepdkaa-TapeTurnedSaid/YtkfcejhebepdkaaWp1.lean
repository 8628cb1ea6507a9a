/- What a run of code comes to, without the count of its rounds: rules for code, known piece by piece. -/
import Derived.Test.YtkfcejhebepdkaaVam32
namespace Go.Vam
open Go

abbrev Fr := FunS Value
abbrev Mm := AS (FunS ABlk)

/-! ## More rounds tell the same -/

def CLe (cf cf' : CallF (FunS ABlk)) : Prop := ∀ f a s r, cf f a s = some r → cf' f a s = some r

section
variable {cf cf' : CallF (FunS ABlk)}

theorem actV_mono (h : CLe cf cf') {fr : Fr} {s : Mm} {op : AOp} {r : Value × Mm} (e : actV cf fr s op = some r) : actV cf' fr s op = some r := by
  cases op <;> first | exact e | skip
  rename_i f xs
  simp only [actV] at e ⊢
  split at e
  · exact h _ _ _ _ e
  · cases e

theorem stepV_mono (h : CLe cf cf') {fr : Fr} {s : Mm} {op : AOp} {r : Value × Mm} (e : stepV cf fr s op = some r) : stepV cf' fr s op = some r := by
  unfold stepV at e ⊢
  split at e <;> first | exact e | exact actV_mono h e

theorem evOps_mono (h : CLe cf cf') : ∀ (l : List AOper) {fr : Fr} {s : Mm} {r : Fr × Mm}, evOps cf l fr s = some r → evOps cf' l fr s = some r := by
  intro l
  induction l with
  | nil => intro fr s r e; exact e
  | cons o l ih =>
    intro fr s r e
    simp only [evOps] at e ⊢
    split at e
    · rename_i hw
      rw [if_pos hw]
      split at e
      · rename_i v s' hs
        simp only [stepV_mono h hs]
        exact ih e
      · cases e
    · rename_i hw
      rw [if_neg hw]
      exact ih e

theorem stepD_mono (h : CLe cf cf') {o : DOper} {i : Nat} {d d' : DState Fr (FunS ABlk)} (e : stepD cf o i d = some d') : stepD cf' o i d = some d' := by
  unfold stepD at e ⊢
  split at e <;> first | exact e | skip
  simp only at e ⊢
  split at e
  · rename_i hp
    rw [if_pos hp]
    split at e
    · rename_i v s' hs
      have : (if wantV d.fr o.o.guard = true then actV cf' d.fr { d.s with h := (joinF o.pre d.flt d.s.h).1 } o.o.op else some (undefV, { d.s with h := (joinF o.pre d.flt d.s.h).1 })) = some (v, s') := by
        split at hs
        · rename_i hw; rw [if_pos hw]; exact actV_mono h hs
        · rename_i hw; rw [if_neg hw]; exact hs
      simp only [this]
      exact e
    · cases e
  · cases e

theorem evD_mono (h : CLe cf cf') : ∀ (l : List DOper) {i : Nat} {d d' : DState Fr (FunS ABlk)}, evD cf l i d = some d' → evD cf' l i d = some d' := by
  intro l
  induction l with
  | nil => intro i d d' e; exact e
  | cons o l ih =>
    intro i d d' e
    simp only [evD] at e ⊢
    split at e
    · rename_i d1 hd
      simp only [stepD_mono h hd]
      exact ih e
    · cases e

theorem evDraw_mono (h : CLe cf cf') {l : List DOper} {fr : Fr} {s : Mm} {r : Fr × Mm} (e : evDraw cf l fr s = some r) : evDraw cf' l fr s = some r := by
  unfold evDraw at e ⊢
  split at e
  · rename_i d hd
    simp only [evD_mono h l hd]
    exact e
  · cases e

theorem iter_mono {f f' : Fr → Mm → Option (AExit × Fr × Mm)} (h : ∀ fr s r, f fr s = some r → f' fr s = some r) : ∀ (n n' : Nat), n ≤ n' → ∀ {fr : Fr} {s : Mm} {r : AExit × Fr × Mm}, iter f n fr s = some r → iter f' n' fr s = some r := by
  intro n
  induction n with
  | zero => intro n' _ fr s r e; cases e
  | succ n ih =>
    intro n' hn fr s r e
    obtain ⟨m, rfl⟩ : ∃ m, n' = m + 1 := ⟨n' - 1, by omega⟩
    simp only [iter] at e ⊢
    split at e
    · rename_i fr1 s1 h1
      simp only [h _ _ _ h1]
      exact ih m (by omega) e
    · rename_i hne
      have := h _ _ _ e
      rw [this]
      obtain ⟨e1, f1, s1⟩ := r
      cases e1 with
      | normal => exact absurd e (hne f1 s1)
      | exit id => rfl
      | ret => rfl

theorem evC_mono (h : CLe cf cf') {n n' : Nat} (hn : n ≤ n') : ∀ (c : ACode) {fr : Fr} {s : Mm} {r : AExit × Fr × Mm}, evC cf n c fr s = some r → evC cf' n' c fr s = some r := by
  intro c
  induction c with
  | skip => intro fr s r e; exact e
  | ops l =>
    intro fr s r e
    simp only [evC] at e ⊢
    split at e
    · rename_i h1; simp only [evOps_mono h l h1]; exact e
    · cases e
  | draw l =>
    intro fr s r e
    simp only [evC] at e ⊢
    split at e
    · rename_i h1; simp only [evDraw_mono h h1]; exact e
    · cases e
  | seq a b iha ihb =>
    intro fr s r e
    simp only [evC] at e ⊢
    split at e
    · rename_i h1; simp only [iha h1]; exact ihb e
    · rename_i hne
      rw [iha e]
      obtain ⟨e1, f1, s1⟩ := r
      cases e1 with
      | normal => exact absurd e (hne f1 s1)
      | exit id => rfl
      | ret => rfl
  | cond c t e iht ihe =>
    intro fr s r e
    simp only [evC] at e ⊢
    split at e
    · exact iht e
    · exact ihe e
    · cases e
  | block id b ih =>
    intro fr s r e
    simp only [evC] at e ⊢
    split at e
    · rename_i h1; simp only [ih h1]; exact e
    · rename_i hne
      rw [ih e]
      obtain ⟨e1, f1, s1⟩ := r
      cases e1 with
      | normal => rfl
      | exit id => exact absurd e (hne id f1 s1)
      | ret => rfl
  | loop b ih =>
    intro fr s r e
    simp only [evC] at e ⊢
    exact iter_mono (fun fr s r h1 => ih h1) n n' hn e
  | exit id => intro fr s r e; exact e
  | ret => intro fr s r e; exact e

end

/-- What is known beside the code: calls known otherwise, and the functions. -/
structure Ctx where
  orc : FuncId → List Value → Option Value
  fns : FuncId → Option AFn

def Ctx.cf (X : Ctx) (n : Nat) : CallF (FunS ABlk) := evX Fr X.orc X.fns n

theorem Ctx.cf_mono (X : Ctx) : ∀ (n n' : Nat), n ≤ n' → CLe (X.cf n) (X.cf n') := by
  intro n
  induction n with
  | zero => intro n' _ f a s r e; cases e
  | succ n ih =>
    intro n' hn f a s r e
    obtain ⟨m, rfl⟩ : ∃ m, n' = m + 1 := ⟨n' - 1, by omega⟩
    unfold Ctx.cf at e ⊢
    simp only [evX] at e ⊢
    split at e
    · exact e
    · split at e
      · cases e
      · split at e
        · rename_i hl
          rw [if_pos hl]
          split at e
          · cases e
          · rename_i h1 _ h2
            rw [evC_mono (cf' := evX Fr X.orc X.fns m) (ih m (by omega)) (by omega : n ≤ m) _ h2]
            split
            · rename_i heq; cases heq; rename_i hno; exact absurd rfl (hno _)
            · rename_i heq; cases heq; exact e
            · rename_i heq; cases heq
          · cases e
        · cases e

def Call (X : Ctx) (f : FuncId) (args : List Value) (s : Mm) (v : Value) (s' : Mm) : Prop := ∃ n, X.cf n f args s = some (v, s')

/-- A call that comes to something of a kind. -/
def CallP (X : Ctx) (f : FuncId) (args : List Value) (s : Mm) (P : Value → Mm → Prop) : Prop := ∃ v s', Call X f args s v s' ∧ P v s'

def W (X : Ctx) (c : ACode) (fr : Fr) (s : Mm) (Q : AExit → Fr → Mm → Prop) : Prop := ∃ n e fr' s', evC (X.cf n) n c fr s = some (e, fr', s') ∧ Q e fr' s'

def WO (X : Ctx) (l : List AOper) (fr : Fr) (s : Mm) (Q : Fr → Mm → Prop) : Prop := ∃ n fr' s', evOps (X.cf n) l fr s = some (fr', s') ∧ Q fr' s'

variable {X : Ctx}

theorem evC_up {n m : Nat} (h : n ≤ m) {c : ACode} {fr : Fr} {s : Mm} {r : AExit × Fr × Mm} (e : evC (X.cf n) n c fr s = some r) : evC (X.cf m) m c fr s = some r := evC_mono (X.cf_mono n m h) h c e

theorem evOps_up {n m : Nat} (h : n ≤ m) {l : List AOper} {fr : Fr} {s : Mm} {r : Fr × Mm} (e : evOps (X.cf n) l fr s = some r) : evOps (X.cf m) l fr s = some r := evOps_mono (X.cf_mono n m h) l e

theorem W.mono {c : ACode} {fr : Fr} {s : Mm} {Q Q' : AExit → Fr → Mm → Prop} (h : W X c fr s Q) (g : ∀ e fr' s', Q e fr' s' → Q' e fr' s') : W X c fr s Q' := by
  obtain ⟨n, e, f, s1, h1, h2⟩ := h
  exact ⟨n, e, f, s1, h1, g _ _ _ h2⟩

theorem WO.mono {l : List AOper} {fr : Fr} {s : Mm} {Q Q' : Fr → Mm → Prop} (h : WO X l fr s Q) (g : ∀ fr' s', Q fr' s' → Q' fr' s') : WO X l fr s Q' := by
  obtain ⟨n, f, s1, h1, h2⟩ := h
  exact ⟨n, f, s1, h1, g _ _ h2⟩

theorem CallP.mono {f : FuncId} {args : List Value} {s : Mm} {P P' : Value → Mm → Prop} (h : CallP X f args s P) (g : ∀ v s', P v s' → P' v s') : CallP X f args s P' := by
  obtain ⟨v, s', h1, h2⟩ := h
  exact ⟨v, s', h1, g _ _ h2⟩

/-! ## Code -/

def SeqK (X : Ctx) (b : ACode) (Q : AExit → Fr → Mm → Prop) (e : AExit) (fr : Fr) (s : Mm) : Prop := match e with
  | .normal => W X b fr s Q
  | e => Q e fr s

theorem W_seq {a b : ACode} {fr : Fr} {s : Mm} {Q : AExit → Fr → Mm → Prop} (h : W X a fr s (SeqK X b Q)) : W X (.seq a b) fr s Q := by
  obtain ⟨n, e, f, s1, h1, h2⟩ := h
  cases e with
  | normal =>
    obtain ⟨m, e', f', s', g1, g2⟩ := h2
    refine ⟨max n m, e', f', s', ?_, g2⟩
    simp only [evC, evC_up (Nat.le_max_left n m) h1, evC_up (Nat.le_max_right n m) g1]
  | exit id => exact ⟨n, _, f, s1, by simp only [evC, h1], h2⟩
  | ret => exact ⟨n, _, f, s1, by simp only [evC, h1], h2⟩

theorem SeqK_n {b : ACode} {Q : AExit → Fr → Mm → Prop} {fr : Fr} {s : Mm} (h : W X b fr s Q) : SeqK X b Q .normal fr s := h
theorem SeqK_r {b : ACode} {Q : AExit → Fr → Mm → Prop} {fr : Fr} {s : Mm} (h : Q .ret fr s) : SeqK X b Q .ret fr s := h
theorem SeqK_x {b : ACode} {Q : AExit → Fr → Mm → Prop} {fr : Fr} {s : Mm} {id : Nat} (h : Q (.exit id) fr s) : SeqK X b Q (.exit id) fr s := h

theorem W_skip {fr : Fr} {s : Mm} {Q : AExit → Fr → Mm → Prop} (h : Q .normal fr s) : W X .skip fr s Q := ⟨0, _, _, _, rfl, h⟩
theorem W_ret {fr : Fr} {s : Mm} {Q : AExit → Fr → Mm → Prop} (h : Q .ret fr s) : W X .ret fr s Q := ⟨0, _, _, _, rfl, h⟩
theorem W_exit {id : Nat} {fr : Fr} {s : Mm} {Q : AExit → Fr → Mm → Prop} (h : Q (.exit id) fr s) : W X (.exit id) fr s Q := ⟨0, _, _, _, rfl, h⟩

theorem W_cond {c : Operand} {t e : ACode} {fr : Fr} {s : Mm} {Q : AExit → Fr → Mm → Prop} {b : Bool} (hc : evO fr c = .bool b) (ht : b = true → W X t fr s Q) (he : b = false → W X e fr s Q) : W X (.cond c t e) fr s Q := by
  cases b with
  | true => obtain ⟨n, x, f, s1, h1, h2⟩ := ht rfl; exact ⟨n, x, f, s1, by simp only [evC, hc, h1], h2⟩
  | false => obtain ⟨n, x, f, s1, h1, h2⟩ := he rfl; exact ⟨n, x, f, s1, by simp only [evC, hc, h1], h2⟩

def BlkK (id : Nat) (Q : AExit → Fr → Mm → Prop) (e : AExit) (fr : Fr) (s : Mm) : Prop := match e with
  | .exit k => if k = id then Q .normal fr s else Q (.exit k) fr s
  | e => Q e fr s

theorem W_block {id : Nat} {b : ACode} {fr : Fr} {s : Mm} {Q : AExit → Fr → Mm → Prop} (h : W X b fr s (BlkK id Q)) : W X (.block id b) fr s Q := by
  obtain ⟨n, e, f, s1, h1, h2⟩ := h
  cases e with
  | normal => exact ⟨n, _, f, s1, by simp only [evC, h1], h2⟩
  | ret => exact ⟨n, _, f, s1, by simp only [evC, h1], h2⟩
  | exit k =>
    by_cases hk : k = id
    · simp only [BlkK, if_pos hk] at h2
      exact ⟨n, _, f, s1, by simp only [evC, h1, if_pos hk], h2⟩
    · simp only [BlkK, if_neg hk] at h2
      exact ⟨n, _, f, s1, by simp only [evC, h1, if_neg hk], h2⟩

theorem BlkK_n {id : Nat} {Q : AExit → Fr → Mm → Prop} {fr : Fr} {s : Mm} (h : Q .normal fr s) : BlkK id Q .normal fr s := h
theorem BlkK_r {id : Nat} {Q : AExit → Fr → Mm → Prop} {fr : Fr} {s : Mm} (h : Q .ret fr s) : BlkK id Q .ret fr s := h
theorem BlkK_e {id : Nat} {Q : AExit → Fr → Mm → Prop} {fr : Fr} {s : Mm} (h : Q .normal fr s) : BlkK id Q (.exit id) fr s := by simp only [BlkK, if_true]; exact h
theorem BlkK_x {id k : Nat} {Q : AExit → Fr → Mm → Prop} {fr : Fr} {s : Mm} (hk : k ≠ id) (h : Q (.exit k) fr s) : BlkK id Q (.exit k) fr s := by simp only [BlkK, if_neg hk]; exact h

def LoopK (m : Nat) (I : Nat → Fr → Mm → Prop) (Q : AExit → Fr → Mm → Prop) (e : AExit) (fr : Fr) (s : Mm) : Prop := match e with
  | .normal => ∃ m', m' < m ∧ I m' fr s
  | e => Q e fr s

/-- A loop by what holds ahead of each round, and what grows less from round to round. -/
theorem W_loop {b : ACode} {fr : Fr} {s : Mm} {Q : AExit → Fr → Mm → Prop} (I : Nat → Fr → Mm → Prop) (m : Nat) (h0 : I m fr s) (h : ∀ m fr s, I m fr s → W X b fr s (LoopK m I Q)) : W X (.loop b) fr s Q := by
  have key : ∀ (m : Nat) (fr : Fr) (s : Mm), I m fr s → ∃ n e fr' s', iter (evC (X.cf n) n b) n fr s = some (e, fr', s') ∧ Q e fr' s' := by
    intro m
    induction m using Nat.strongRecOn with
    | _ m ih =>
      intro fr s hI
      obtain ⟨n, e, f, s1, h1, h2⟩ := h m fr s hI
      cases e with
      | normal =>
        obtain ⟨m', hm, hI'⟩ := h2
        obtain ⟨n', e', f', s', g1, g2⟩ := ih m' hm f s1 hI'
        refine ⟨max n n' + 1, e', f', s', ?_, g2⟩
        simp only [iter]
        rw [evC_up (by omega : n ≤ max n n' + 1) h1]
        exact iter_mono (fun fr s r hr => evC_up (by omega : n' ≤ max n n' + 1) hr) n' (max n n') (by omega) g1
      | exit id => exact ⟨n + 1, _, f, s1, by simp only [iter, evC_up (by omega : n ≤ n + 1) h1], h2⟩
      | ret => exact ⟨n + 1, _, f, s1, by simp only [iter, evC_up (by omega : n ≤ n + 1) h1], h2⟩
  obtain ⟨n, e, f, s1, h1, h2⟩ := key m fr s h0
  exact ⟨n, e, f, s1, by simp only [evC]; exact h1, h2⟩

theorem LoopK_n {m m' : Nat} {I : Nat → Fr → Mm → Prop} {Q : AExit → Fr → Mm → Prop} {fr : Fr} {s : Mm} (hm : m' < m) (h : I m' fr s) : LoopK m I Q .normal fr s := ⟨m', hm, h⟩
theorem LoopK_r {m : Nat} {I : Nat → Fr → Mm → Prop} {Q : AExit → Fr → Mm → Prop} {fr : Fr} {s : Mm} (h : Q .ret fr s) : LoopK m I Q .ret fr s := h
theorem LoopK_x {m id : Nat} {I : Nat → Fr → Mm → Prop} {Q : AExit → Fr → Mm → Prop} {fr : Fr} {s : Mm} (h : Q (.exit id) fr s) : LoopK m I Q (.exit id) fr s := h

/-- Of a frame only so many temporaries are told on. -/
def Keep : List Nat → Fr → Fr → Prop → Prop
  | [], _, _, P => P
  | t :: L, fr1, fr', P => geT fr1 t = geT fr' t → Keep L fr1 fr' P

def KeepK (L : List Nat) (Q : Fr → Mm → Prop) (fr : Fr) (s : Mm) : Prop := ∀ fr1 : Fr, Keep L fr1 fr (Q fr1 s)

theorem KeepK.of {L : List Nat} {Q : Fr → Mm → Prop} {fr : Fr} {s : Mm} (h : KeepK L Q fr s) : Q fr s := by
  have key : ∀ (L : List Nat) (P : Prop), Keep L fr fr P → P := by
    intro L
    induction L with
    | nil => intro P h; exact h
    | cons t L ih => intro P h; exact ih P (h rfl)
  exact key L _ (h fr)

theorem W_ops (L : List Nat) {l : List AOper} {fr : Fr} {s : Mm} {Q : AExit → Fr → Mm → Prop} (h : WO X l fr s (KeepK L (Q .normal))) : W X (.ops l) fr s Q := by
  obtain ⟨n, f, s1, h1, h2⟩ := h
  exact ⟨n, _, f, s1, by simp only [evC, h1], h2.of⟩

theorem W_keep (L : List Nat) {c : ACode} {fr : Fr} {s : Mm} {Q : AExit → Fr → Mm → Prop} (h : KeepK L (fun fr s => W X c fr s Q) fr s) : W X c fr s Q := h.of

/-! ## Calls -/

def RetK (rs : List ARes) (P : Value → Mm → Prop) (e : AExit) (fr : Fr) (s : Mm) : Prop := match e with
  | .exit _ => False
  | _ => ∃ vs, resVs fr s rs = some vs ∧ P (packV vs) s

theorem CallP_of {f : FuncId} {fn : AFn} {args : List Value} {s : Mm} {P : Value → Mm → Prop} (hf : X.fns f = some fn) (ho : X.orc f args = none) (hl : args.length ≤ fn.ntmps)
    (h : W X fn.body (frameOf args 0 (Store.emp : Fr)) s (RetK fn.results P)) : CallP X f args s P := by
  obtain ⟨n, e, fr, s1, h1, h2⟩ := h
  cases e with
  | exit id => exact h2.elim
  | normal =>
    obtain ⟨vs, h3, h4⟩ := h2
    exact ⟨_, s1, ⟨n + 1, by unfold Ctx.cf at h1 ⊢; simp only [evX, ho, hf, if_pos hl, h1, h3, Option.map_some]⟩, h4⟩
  | ret =>
    obtain ⟨vs, h3, h4⟩ := h2
    exact ⟨_, s1, ⟨n + 1, by unfold Ctx.cf at h1 ⊢; simp only [evX, ho, hf, if_pos hl, h1, h3, Option.map_some]⟩, h4⟩

theorem Call_orc {f : FuncId} {args : List Value} {s : Mm} {v : Value} (h : X.orc f args = some v) : Call X f args s v s := ⟨1, by unfold Ctx.cf; simp only [evX, h]⟩

theorem RetK_r {rs : List ARes} {P : Value → Mm → Prop} {fr : Fr} {s : Mm} {vs : List Value} (h : resVs fr s rs = some vs) (g : P (packV vs) s) : RetK rs P .ret fr s := ⟨vs, h, g⟩
theorem RetK_n {rs : List ARes} {P : Value → Mm → Prop} {fr : Fr} {s : Mm} {vs : List Value} (h : resVs fr s rs = some vs) (g : P (packV vs) s) : RetK rs P .normal fr s := ⟨vs, h, g⟩

/-! ## Operations one behind the other -/

def PureK (X : Ctx) (o : Option Value) (d : Option Tmp) (l : List AOper) (fr : Fr) (s : Mm) (Q : Fr → Mm → Prop) : Prop := ∃ v, o = some v ∧ WO X l (puT fr d v) s Q
def MemK (X : Ctx) (o : Option (Value × Mm)) (d : Option Tmp) (l : List AOper) (fr : Fr) (Q : Fr → Mm → Prop) : Prop := ∃ v s', o = some (v, s') ∧ WO X l (puT fr d v) s' Q
def CallK (X : Ctx) (f : FuncId) (args : List Value) (d : Option Tmp) (l : List AOper) (fr : Fr) (s : Mm) (Q : Fr → Mm → Prop) : Prop := ∃ v s', Call X f args s v s' ∧ WO X l (puT fr d v) s' Q

theorem PureK_some {v : Value} {d : Option Tmp} {l : List AOper} {fr : Fr} {s : Mm} {Q : Fr → Mm → Prop} : PureK X (some v) d l fr s Q = WO X l (puT fr d v) s Q := by
  apply propext
  constructor
  · rintro ⟨v', h, g⟩; cases h; exact g
  · intro h; exact ⟨v, rfl, h⟩

theorem MemK_some {v : Value} {s' : Mm} {d : Option Tmp} {l : List AOper} {fr : Fr} {Q : Fr → Mm → Prop} : MemK X (some (v, s')) d l fr Q = WO X l (puT fr d v) s' Q := by
  apply propext
  constructor
  · rintro ⟨v', s1, h, g⟩; cases h; exact g
  · intro h; exact ⟨v, s', rfl, h⟩

theorem CallK_of {f : FuncId} {args : List Value} {d : Option Tmp} {l : List AOper} {fr : Fr} {s : Mm} {Q : Fr → Mm → Prop} {P : Value → Mm → Prop} (h : CallP X f args s P) (g : ∀ v s', P v s' → WO X l (puT fr d v) s' Q) : CallK X f args d l fr s Q := by
  obtain ⟨v, s', h1, h2⟩ := h
  exact ⟨v, s', h1, g v s' h2⟩

theorem CallK_eq {f : FuncId} {args : List Value} {d : Option Tmp} {l : List AOper} {fr : Fr} {s s' : Mm} {v : Value} {Q : Fr → Mm → Prop} (h : Call X f args s v s') (g : WO X l (puT fr d v) s' Q) : CallK X f args d l fr s Q := ⟨v, s', h, g⟩

theorem WO_nil {fr : Fr} {s : Mm} {Q : Fr → Mm → Prop} : WO X [] fr s Q = Q fr s := by
  apply propext
  constructor
  · rintro ⟨n, f, s1, h, g⟩; simp only [evOps, Option.some.injEq, Prod.mk.injEq] at h; obtain ⟨rfl, rfl⟩ := h; exact g
  · intro h; exact ⟨0, _, _, rfl, h⟩

/-- What an operation does, that is no call. -/
def stepS (fr : Fr) (s : Mm) (op : AOp) : Option (Value × Mm) := stepV (fun _ _ _ => none) fr s op

def noCall : AOp → Bool
  | .call .. => false
  | _ => true

theorem stepV_noCall (cf : CallF (FunS ABlk)) {op : AOp} (h : noCall op = true) (fr : Fr) (s : Mm) : stepV cf fr s op = stepS fr s op := by
  unfold stepS
  cases op <;> first | rfl | cases h

theorem WO_step {op : AOp} {d : Option Tmp} {l : List AOper} {fr : Fr} {s : Mm} {Q : Fr → Mm → Prop} (h : noCall op = true) :
    WO X (⟨op, d, none⟩ :: l) fr s Q = MemK X (stepS fr s op) d l fr Q := by
  apply propext
  constructor
  · rintro ⟨n, f, s1, e, g⟩
    simp only [evOps, wantV, if_true, stepV_noCall _ h] at e
    split at e
    · rename_i v s' hs
      exact ⟨v, s', hs, n, f, s1, e, g⟩
    · cases e
  · rintro ⟨v, s', hs, n, f, s1, e, g⟩
    exact ⟨n, f, s1, by simp only [evOps, wantV, if_true, stepV_noCall _ h, hs, e], g⟩

theorem WO_guard {op : AOp} {d : Option Tmp} {t : Tmp} {b : Bool} {l : List AOper} {fr : Fr} {s : Mm} {Q : Fr → Mm → Prop} :
    WO X (⟨op, d, some (t, b)⟩ :: l) fr s Q = if wantV fr (some (t, b)) = true then WO X (⟨op, d, none⟩ :: l) fr s Q else WO X l (puT fr d undefV) s Q := by
  split
  · rename_i hw
    apply propext
    constructor
    · rintro ⟨n, f, s1, e, g⟩
      refine ⟨n, f, s1, ?_, g⟩
      simp only [evOps] at e ⊢
      rw [if_pos hw] at e
      simp only [wantV, if_true]
      exact e
    · rintro ⟨n, f, s1, e, g⟩
      refine ⟨n, f, s1, ?_, g⟩
      simp only [evOps] at e ⊢
      rw [if_pos hw]
      simp only [wantV, if_true] at e
      exact e
  · rename_i hw
    apply propext
    constructor
    · rintro ⟨n, f, s1, e, g⟩
      exact ⟨n, f, s1, by simp only [evOps] at e; rw [if_neg hw] at e; exact e, g⟩
    · rintro ⟨n, f, s1, e, g⟩
      exact ⟨n, f, s1, by simp only [evOps]; rw [if_neg hw]; exact e, g⟩

theorem WO_pure {op : AOp} {d : Option Tmp} {l : List AOper} {fr : Fr} {s : Mm} {Q : Fr → Mm → Prop} (h : op.kind = .pur) :
    WO X (⟨op, d, none⟩ :: l) fr s Q = PureK X (pureV fr op) d l fr s Q := by
  rw [WO_step (by cases op <;> first | rfl | cases h)]
  unfold MemK PureK stepS stepV
  rw [h]
  apply propext
  constructor
  · rintro ⟨v, s', e, g⟩
    obtain ⟨v', h1, h2⟩ := Option.map_eq_some_iff.1 e
    cases h2
    exact ⟨v, h1, g⟩
  · rintro ⟨v, e, g⟩
    exact ⟨v, s, by simp only [e, Option.map_some], g⟩

theorem WO_read {op : AOp} {d : Option Tmp} {l : List AOper} {fr : Fr} {s : Mm} {Q : Fr → Mm → Prop} (h : op.kind = .rd) :
    WO X (⟨op, d, none⟩ :: l) fr s Q = PureK X (readV fr s op) d l fr s Q := by
  rw [WO_step (by cases op <;> first | rfl | cases h)]
  unfold MemK PureK stepS stepV
  rw [h]
  apply propext
  constructor
  · rintro ⟨v, s', e, g⟩
    obtain ⟨v', h1, h2⟩ := Option.map_eq_some_iff.1 e
    cases h2
    exact ⟨v, h1, g⟩
  · rintro ⟨v, e, g⟩
    exact ⟨v, s, by simp only [e, Option.map_some], g⟩

def NewK (X : Ctx) (o : Option (Value × ABlk)) (d : Option Tmp) (l : List AOper) (fr : Fr) (s : Mm) (Q : Fr → Mm → Prop) : Prop := ∃ v b, o = some (v, b) ∧ WO X l (puT fr d v) (newAt s b) Q

theorem NewK_some {v : Value} {b : ABlk} {d : Option Tmp} {l : List AOper} {fr : Fr} {s : Mm} {Q : Fr → Mm → Prop} : NewK X (some (v, b)) d l fr s Q = WO X l (puT fr d v) (newAt s b) Q := by
  apply propext
  constructor
  · rintro ⟨v', s1, h, g⟩; cases h; exact g
  · intro h; exact ⟨v, b, rfl, h⟩

theorem WO_new {op : AOp} {d : Option Tmp} {l : List AOper} {fr : Fr} {s : Mm} {Q : Fr → Mm → Prop} (h : op.kind = .new) :
    WO X (⟨op, d, none⟩ :: l) fr s Q = NewK X (newV fr s.nxt op) d l fr s Q := by
  rw [WO_step (by cases op <;> first | rfl | cases h)]
  unfold MemK NewK stepS stepV
  rw [h]
  apply propext
  constructor
  · rintro ⟨v, s', e, g⟩
    obtain ⟨⟨v', b⟩, h1, h2⟩ := Option.map_eq_some_iff.1 e
    cases h2
    exact ⟨_, b, h1, g⟩
  · rintro ⟨v, b, e, g⟩
    exact ⟨v, newAt s b, by simp only [e, Option.map_some], g⟩

theorem WO_call {f : FuncId} {xs : List Operand} {d : Option Tmp} {l : List AOper} {fr : Fr} {s : Mm} {Q : Fr → Mm → Prop} :
    WO X (⟨.call (.func f) xs, d, none⟩ :: l) fr s Q = CallK X f (xs.map (evO fr)) d l fr s Q := by
  have hcf : ∀ n, stepV (X.cf n) fr s (.call (.func f) xs) = X.cf n f (xs.map (evO fr)) s := fun n => by
    show (X.cf n) f ((#[] : Array Value).toList ++ xs.map (evO fr) ++ (#[] : Array Value).toList) s = _
    simp
  apply propext
  constructor
  · rintro ⟨n, f', s1, e, g⟩
    simp only [evOps, wantV, if_true, hcf] at e
    split at e
    · rename_i v s' hs
      exact ⟨v, s', ⟨n, hs⟩, n, f', s1, e, g⟩
    · cases e
  · rintro ⟨v, s', ⟨m, hs⟩, n, f', s1, e, g⟩
    refine ⟨max n m, f', s1, ?_, g⟩
    simp only [evOps, wantV, if_true, hcf]
    rw [X.cf_mono m (max n m) (Nat.le_max_right n m) _ _ _ _ hs]
    exact evOps_up (Nat.le_max_left n m) e

end Go.Vam
