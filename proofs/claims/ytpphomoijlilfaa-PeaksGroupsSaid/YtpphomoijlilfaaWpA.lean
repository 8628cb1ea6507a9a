/- What a run of code comes to, without the count of its rounds: rules for code, known piece by piece. -/
import Derived.Test.YtpphomoijlilfaaVam32
import Derived.ChangeSame
import Derived.Carry
namespace Go.Vam
open Go
abbrev Fr := FunS Value
abbrev Mm := AS (FunS ABlk)
def CLe (cf cf' : CallF (FunS ABlk)) : Prop := ∀ f a s r, cf f a s = some r → cf' f a s = some r
section
variable {cf cf' : CallF (FunS ABlk)}
theorem actV_mono (h : CLe cf cf') {fr : Fr} {s : Mm} {op : AOp} {r : Value × Mm} (e : actV cf fr s op = some r) : actV cf' fr s op = some r := by
  cases op <;> first | exact e | skip
  rename_i f xs
  simp only [actV] at e ⊢
  split at e
  · exact h _ _ _ _ e
  · cases e
theorem stepV_mono (h : CLe cf cf') {fr : Fr} {s : Mm} {op : AOp} {r : Value × Mm} (e : stepV cf fr s op = some r) : stepV cf' fr s op = some r := by
  unfold stepV at e ⊢
  split at e <;> first | exact e | exact actV_mono h e
theorem evOps_mono (h : CLe cf cf') : ∀ (l : List AOper) {fr : Fr} {s : Mm} {r : Fr × Mm}, evOps cf l fr s = some r → evOps cf' l fr s = some r := by
  intro l
  induction l with
  | nil => intro fr s r e; exact e
  | cons o l ih =>
    intro fr s r e
    simp only [evOps] at e ⊢
    split at e
    · rename_i hw
      rw [if_pos hw]
      split at e
      · rename_i v s' hs
        simp only [stepV_mono h hs]
        exact ih e
      · cases e
    · rename_i hw
      rw [if_neg hw]
      exact ih e
theorem stepD_mono (h : CLe cf cf') {o : DOper} {i : Nat} {d d' : DState Fr (FunS ABlk)} (e : stepD cf o i d = some d') : stepD cf' o i d = some d' := by
  unfold stepD at e ⊢
  split at e <;> first | exact e | skip
  simp only at e ⊢
  split at e
  · rename_i hp
    rw [if_pos hp]
    split at e
    · rename_i v s' hs
      have : (if wantV d.fr o.o.guard = true then actV cf' d.fr { d.s with h := (joinF o.pre d.flt d.s.h).1 } o.o.op else some (undefV, { d.s with h := (joinF o.pre d.flt d.s.h).1 })) = some (v, s') := by
        split at hs
        · rename_i hw; rw [if_pos hw]; exact actV_mono h hs
        · rename_i hw; rw [if_neg hw]; exact hs
      simp only [this]
      exact e
    · cases e
  · cases e
theorem evD_mono (h : CLe cf cf') : ∀ (l : List DOper) {i : Nat} {d d' : DState Fr (FunS ABlk)}, evD cf l i d = some d' → evD cf' l i d = some d' := by
  intro l
  induction l with
  | nil => intro i d d' e; exact e
  | cons o l ih =>
    intro i d d' e
    simp only [evD] at e ⊢
    split at e
    · rename_i d1 hd
      simp only [stepD_mono h hd]
      exact ih e
    · cases e
theorem evDraw_mono (h : CLe cf cf') {l : List DOper} {fr : Fr} {s : Mm} {r : Fr × Mm} (e : evDraw cf l fr s = some r) : evDraw cf' l fr s = some r := by
  unfold evDraw at e ⊢
  split at e
  · rename_i d hd
    simp only [evD_mono h l hd]
    exact e
  · cases e
theorem iter_mono {f f' : Fr → Mm → Option (AExit × Fr × Mm)} (h : ∀ fr s r, f fr s = some r → f' fr s = some r) : ∀ (n n' : Nat), n ≤ n' → ∀ {fr : Fr} {s : Mm} {r : AExit × Fr × Mm}, iter f n fr s = some r → iter f' n' fr s = some r := by
  intro n
  induction n with
  | zero => intro n' _ fr s r e; cases e
  | succ n ih =>
    intro n' hn fr s r e
    obtain ⟨m, rfl⟩ : ∃ m, n' = m + 1 := ⟨n' - 1, by omega⟩
    simp only [iter] at e ⊢
    split at e
    · rename_i fr1 s1 h1
      simp only [h _ _ _ h1]
      exact ih m (by omega) e
    · rename_i hne
      have := h _ _ _ e
      rw [this]
      obtain ⟨e1, f1, s1⟩ := r
      cases e1 with
      | normal => exact absurd e (hne f1 s1)
      | exit id => rfl
      | ret => rfl
theorem evC_mono (h : CLe cf cf') {n n' : Nat} (hn : n ≤ n') : ∀ (c : ACode) {fr : Fr} {s : Mm} {r : AExit × Fr × Mm}, evC cf n c fr s = some r → evC cf' n' c fr s = some r := by
  intro c
  induction c with
  | skip => intro fr s r e; exact e
  | ops l =>
    intro fr s r e
    simp only [evC] at e ⊢
    split at e
    · rename_i h1; simp only [evOps_mono h l h1]; exact e
    · cases e
  | draw l =>
    intro fr s r e
    simp only [evC] at e ⊢
    split at e
    · rename_i h1; simp only [evDraw_mono h h1]; exact e
    · cases e
  | seq a b iha ihb =>
    intro fr s r e
    simp only [evC] at e ⊢
    split at e
    · rename_i h1; simp only [iha h1]; exact ihb e
    · rename_i hne
      rw [iha e]
      obtain ⟨e1, f1, s1⟩ := r
      cases e1 with
      | normal => exact absurd e (hne f1 s1)
      | exit id => rfl
      | ret => rfl
  | cond c t e iht ihe =>
    intro fr s r e
    simp only [evC] at e ⊢
    split at e
    · exact iht e
    · exact ihe e
    · cases e
  | block id b ih =>
    intro fr s r e
    simp only [evC] at e ⊢
    split at e
    · rename_i h1; simp only [ih h1]; exact e
    · rename_i hne
      rw [ih e]
      obtain ⟨e1, f1, s1⟩ := r
      cases e1 with
      | normal => rfl
      | exit id => exact absurd e (hne id f1 s1)
      | ret => rfl
  | loop b ih =>
    intro fr s r e
    simp only [evC] at e ⊢
    exact iter_mono (fun fr s r h1 => ih h1) n n' hn e
  | exit id => intro fr s r e; exact e
  | ret => intro fr s r e; exact e
end
structure Ctx where
  orc : FuncId → List Value → Option Value
  fns : FuncId → Option AFn
def Ctx.cf (X : Ctx) (n : Nat) : CallF (FunS ABlk) := evX Fr X.orc X.fns n
theorem Ctx.cf_mono (X : Ctx) : ∀ (n n' : Nat), n ≤ n' → CLe (X.cf n) (X.cf n') := by
  intro n
  induction n with
  | zero => intro n' _ f a s r e; cases e
  | succ n ih =>
    intro n' hn f a s r e
    obtain ⟨m, rfl⟩ : ∃ m, n' = m + 1 := ⟨n' - 1, by omega⟩
    unfold Ctx.cf at e ⊢
    simp only [evX] at e ⊢
    split at e
    · exact e
    · split at e
      · cases e
      · split at e
        · rename_i hl
          rw [if_pos hl]
          split at e
          · cases e
          · rename_i h1 _ h2
            rw [evC_mono (cf' := evX Fr X.orc X.fns m) (ih m (by omega)) (by omega : n ≤ m) _ h2]
            split
            · rename_i heq; cases heq; rename_i hno; exact absurd rfl (hno _)
            · rename_i heq; cases heq; exact e
            · rename_i heq; cases heq
          · cases e
        · cases e
def Call (X : Ctx) (f : FuncId) (args : List Value) (s : Mm) (v : Value) (s' : Mm) : Prop := ∃ n, X.cf n f args s = some (v, s')
def CallP (X : Ctx) (f : FuncId) (args : List Value) (s : Mm) (P : Value → Mm → Prop) : Prop := ∃ v s', Call X f args s v s' ∧ P v s'
def W (X : Ctx) (c : ACode) (fr : Fr) (s : Mm) (Q : AExit → Fr → Mm → Prop) : Prop := ∃ n e fr' s', evC (X.cf n) n c fr s = some (e, fr', s') ∧ Q e fr' s'
def WO (X : Ctx) (l : List AOper) (fr : Fr) (s : Mm) (Q : Fr → Mm → Prop) : Prop := ∃ n fr' s', evOps (X.cf n) l fr s = some (fr', s') ∧ Q fr' s'
variable {X : Ctx}
theorem evC_up {n m : Nat} (h : n ≤ m) {c : ACode} {fr : Fr} {s : Mm} {r : AExit × Fr × Mm} (e : evC (X.cf n) n c fr s = some r) : evC (X.cf m) m c fr s = some r := evC_mono (X.cf_mono n m h) h c e
theorem evOps_up {n m : Nat} (h : n ≤ m) {l : List AOper} {fr : Fr} {s : Mm} {r : Fr × Mm} (e : evOps (X.cf n) l fr s = some r) : evOps (X.cf m) l fr s = some r := evOps_mono (X.cf_mono n m h) l e
theorem W.mono {c : ACode} {fr : Fr} {s : Mm} {Q Q' : AExit → Fr → Mm → Prop} (h : W X c fr s Q) (g : ∀ e fr' s', Q e fr' s' → Q' e fr' s') : W X c fr s Q' := by
  obtain ⟨n, e, f, s1, h1, h2⟩ := h
  exact ⟨n, e, f, s1, h1, g _ _ _ h2⟩
theorem WO.mono {l : List AOper} {fr : Fr} {s : Mm} {Q Q' : Fr → Mm → Prop} (h : WO X l fr s Q) (g : ∀ fr' s', Q fr' s' → Q' fr' s') : WO X l fr s Q' := by
  obtain ⟨n, f, s1, h1, h2⟩ := h
  exact ⟨n, f, s1, h1, g _ _ h2⟩
theorem CallP.mono {f : FuncId} {args : List Value} {s : Mm} {P P' : Value → Mm → Prop} (h : CallP X f args s P) (g : ∀ v s', P v s' → P' v s') : CallP X f args s P' := by
  obtain ⟨v, s', h1, h2⟩ := h
  exact ⟨v, s', h1, g _ _ h2⟩
def SeqK (X : Ctx) (b : ACode) (Q : AExit → Fr → Mm → Prop) (e : AExit) (fr : Fr) (s : Mm) : Prop := match e with
  | .normal => W X b fr s Q
  | e => Q e fr s
theorem qak {a b : ACode} {fr : Fr} {s : Mm} {Q : AExit → Fr → Mm → Prop} (h : W X a fr s (SeqK X b Q)) : W X (.seq a b) fr s Q := by
  obtain ⟨n, e, f, s1, h1, h2⟩ := h
  cases e with
  | normal =>
    obtain ⟨m, e', f', s', g1, g2⟩ := h2
    refine ⟨max n m, e', f', s', ?_, g2⟩
    simp only [evC, evC_up (Nat.le_max_left n m) h1, evC_up (Nat.le_max_right n m) g1]
  | exit id => exact ⟨n, _, f, s1, by simp only [evC, h1], h2⟩
  | ret => exact ⟨n, _, f, s1, by simp only [evC, h1], h2⟩
theorem qai {b : ACode} {Q : AExit → Fr → Mm → Prop} {fr : Fr} {s : Mm} (h : W X b fr s Q) : SeqK X b Q .normal fr s := h
theorem SeqK_r {b : ACode} {Q : AExit → Fr → Mm → Prop} {fr : Fr} {s : Mm} (h : Q .ret fr s) : SeqK X b Q .ret fr s := h
theorem SeqK_x {b : ACode} {Q : AExit → Fr → Mm → Prop} {fr : Fr} {s : Mm} {id : Nat} (h : Q (.exit id) fr s) : SeqK X b Q (.exit id) fr s := h
theorem W_skip {fr : Fr} {s : Mm} {Q : AExit → Fr → Mm → Prop} (h : Q .normal fr s) : W X .skip fr s Q := ⟨0, _, _, _, rfl, h⟩
theorem W_ret {fr : Fr} {s : Mm} {Q : AExit → Fr → Mm → Prop} (h : Q .ret fr s) : W X .ret fr s Q := ⟨0, _, _, _, rfl, h⟩
theorem W_exit {id : Nat} {fr : Fr} {s : Mm} {Q : AExit → Fr → Mm → Prop} (h : Q (.exit id) fr s) : W X (.exit id) fr s Q := ⟨0, _, _, _, rfl, h⟩
theorem W_cond {c : Operand} {t e : ACode} {fr : Fr} {s : Mm} {Q : AExit → Fr → Mm → Prop} {b : Bool} (hc : evO fr c = .bool b) (ht : b = true → W X t fr s Q) (he : b = false → W X e fr s Q) : W X (.cond c t e) fr s Q := by
  cases b with
  | true => obtain ⟨n, x, f, s1, h1, h2⟩ := ht rfl; exact ⟨n, x, f, s1, by simp only [evC, hc, h1], h2⟩
  | false => obtain ⟨n, x, f, s1, h1, h2⟩ := he rfl; exact ⟨n, x, f, s1, by simp only [evC, hc, h1], h2⟩
def BlkK (id : Nat) (Q : AExit → Fr → Mm → Prop) (e : AExit) (fr : Fr) (s : Mm) : Prop := match e with
  | .exit k => if k = id then Q .normal fr s else Q (.exit k) fr s
  | e => Q e fr s
theorem qat {id : Nat} {b : ACode} {fr : Fr} {s : Mm} {Q : AExit → Fr → Mm → Prop} (h : W X b fr s (BlkK id Q)) : W X (.block id b) fr s Q := by
  obtain ⟨n, e, f, s1, h1, h2⟩ := h
  cases e with
  | normal => exact ⟨n, _, f, s1, by simp only [evC, h1], h2⟩
  | ret => exact ⟨n, _, f, s1, by simp only [evC, h1], h2⟩
  | exit k =>
    by_cases hk : k = id
    · simp only [BlkK, if_pos hk] at h2
      exact ⟨n, _, f, s1, by simp only [evC, h1, if_pos hk], h2⟩
    · simp only [BlkK, if_neg hk] at h2
      exact ⟨n, _, f, s1, by simp only [evC, h1, if_neg hk], h2⟩
theorem BlkK_n {id : Nat} {Q : AExit → Fr → Mm → Prop} {fr : Fr} {s : Mm} (h : Q .normal fr s) : BlkK id Q .normal fr s := h
theorem BlkK_r {id : Nat} {Q : AExit → Fr → Mm → Prop} {fr : Fr} {s : Mm} (h : Q .ret fr s) : BlkK id Q .ret fr s := h
theorem BlkK_e {id : Nat} {Q : AExit → Fr → Mm → Prop} {fr : Fr} {s : Mm} (h : Q .normal fr s) : BlkK id Q (.exit id) fr s := by simp only [BlkK, if_true]; exact h
theorem BlkK_x {id k : Nat} {Q : AExit → Fr → Mm → Prop} {fr : Fr} {s : Mm} (hk : k ≠ id) (h : Q (.exit k) fr s) : BlkK id Q (.exit k) fr s := by simp only [BlkK, if_neg hk]; exact h
def LoopK (m : Nat) (I : Nat → Fr → Mm → Prop) (Q : AExit → Fr → Mm → Prop) (e : AExit) (fr : Fr) (s : Mm) : Prop := match e with
  | .normal => ∃ m', m' < m ∧ I m' fr s
  | e => Q e fr s
theorem W_loop {b : ACode} {fr : Fr} {s : Mm} {Q : AExit → Fr → Mm → Prop} (I : Nat → Fr → Mm → Prop) (m : Nat) (h0 : I m fr s) (h : ∀ m fr s, I m fr s → W X b fr s (LoopK m I Q)) : W X (.loop b) fr s Q := by
  have key : ∀ (m : Nat) (fr : Fr) (s : Mm), I m fr s → ∃ n e fr' s', iter (evC (X.cf n) n b) n fr s = some (e, fr', s') ∧ Q e fr' s' := by
    intro m
    induction m using Nat.strongRecOn with
    | _ m ih =>
      intro fr s hI
      obtain ⟨n, e, f, s1, h1, h2⟩ := h m fr s hI
      cases e with
      | normal =>
        obtain ⟨m', hm, hI'⟩ := h2
        obtain ⟨n', e', f', s', g1, g2⟩ := ih m' hm f s1 hI'
        refine ⟨max n n' + 1, e', f', s', ?_, g2⟩
        simp only [iter]
        rw [evC_up (by omega : n ≤ max n n' + 1) h1]
        exact iter_mono (fun fr s r hr => evC_up (by omega : n' ≤ max n n' + 1) hr) n' (max n n') (by omega) g1
      | exit id => exact ⟨n + 1, _, f, s1, by simp only [iter, evC_up (by omega : n ≤ n + 1) h1], h2⟩
      | ret => exact ⟨n + 1, _, f, s1, by simp only [iter, evC_up (by omega : n ≤ n + 1) h1], h2⟩
  obtain ⟨n, e, f, s1, h1, h2⟩ := key m fr s h0
  exact ⟨n, e, f, s1, by simp only [evC]; exact h1, h2⟩
theorem LoopK_n {m m' : Nat} {I : Nat → Fr → Mm → Prop} {Q : AExit → Fr → Mm → Prop} {fr : Fr} {s : Mm} (hm : m' < m) (h : I m' fr s) : LoopK m I Q .normal fr s := ⟨m', hm, h⟩
theorem LoopK_r {m : Nat} {I : Nat → Fr → Mm → Prop} {Q : AExit → Fr → Mm → Prop} {fr : Fr} {s : Mm} (h : Q .ret fr s) : LoopK m I Q .ret fr s := h
theorem LoopK_x {m id : Nat} {I : Nat → Fr → Mm → Prop} {Q : AExit → Fr → Mm → Prop} {fr : Fr} {s : Mm} (h : Q (.exit id) fr s) : LoopK m I Q (.exit id) fr s := h
def Keep : List Nat → Fr → Fr → Prop → Prop
  | [], _, _, P => P
  | t :: L, fr1, fr', P => geT fr1 t = geT fr' t → Keep L fr1 fr' P
def KeepK (L : List Nat) (Q : Fr → Mm → Prop) (fr : Fr) (s : Mm) : Prop := ∀ fr1 : Fr, Keep L fr1 fr (Q fr1 s)
theorem KeepK.of {L : List Nat} {Q : Fr → Mm → Prop} {fr : Fr} {s : Mm} (h : KeepK L Q fr s) : Q fr s := by
  have key : ∀ (L : List Nat) (P : Prop), Keep L fr fr P → P := by
    intro L
    induction L with
    | nil => intro P h; exact h
    | cons t L ih => intro P h; exact ih P (h rfl)
  exact key L _ (h fr)
theorem qan (L : List Nat) {l : List AOper} {fr : Fr} {s : Mm} {Q : AExit → Fr → Mm → Prop} (h : WO X l fr s (KeepK L (Q .normal))) : W X (.ops l) fr s Q := by
  obtain ⟨n, f, s1, h1, h2⟩ := h
  exact ⟨n, _, f, s1, by simp only [evC, h1], h2.of⟩
def RetK (rs : List ARes) (P : Value → Mm → Prop) (e : AExit) (fr : Fr) (s : Mm) : Prop := match e with
  | .exit _ => False
  | _ => ∃ vs, resVs fr s rs = some vs ∧ P (packV vs) s
theorem CallP_of {f : FuncId} {fn : AFn} {args : List Value} {s : Mm} {P : Value → Mm → Prop} (hf : X.fns f = some fn) (ho : X.orc f args = none) (hl : args.length ≤ fn.ntmps)
    (h : W X fn.body (frameOf args 0 (Store.emp : Fr)) s (RetK fn.results P)) : CallP X f args s P := by
  obtain ⟨n, e, fr, s1, h1, h2⟩ := h
  cases e with
  | exit id => exact h2.elim
  | normal =>
    obtain ⟨vs, h3, h4⟩ := h2
    exact ⟨_, s1, ⟨n + 1, by unfold Ctx.cf at h1 ⊢; simp only [evX, ho, hf, if_pos hl, h1, h3, Option.map_some]⟩, h4⟩
  | ret =>
    obtain ⟨vs, h3, h4⟩ := h2
    exact ⟨_, s1, ⟨n + 1, by unfold Ctx.cf at h1 ⊢; simp only [evX, ho, hf, if_pos hl, h1, h3, Option.map_some]⟩, h4⟩
theorem Call_orc {f : FuncId} {args : List Value} {s : Mm} {v : Value} (h : X.orc f args = some v) : Call X f args s v s := ⟨1, by unfold Ctx.cf; simp only [evX, h]⟩
theorem RetK_r {rs : List ARes} {P : Value → Mm → Prop} {fr : Fr} {s : Mm} {vs : List Value} (h : resVs fr s rs = some vs) (g : P (packV vs) s) : RetK rs P .ret fr s := ⟨vs, h, g⟩
theorem RetK_n {rs : List ARes} {P : Value → Mm → Prop} {fr : Fr} {s : Mm} {vs : List Value} (h : resVs fr s rs = some vs) (g : P (packV vs) s) : RetK rs P .normal fr s := ⟨vs, h, g⟩
def PureK (X : Ctx) (o : Option Value) (d : Option Tmp) (l : List AOper) (fr : Fr) (s : Mm) (Q : Fr → Mm → Prop) : Prop := ∃ v, o = some v ∧ WO X l (puT fr d v) s Q
def MemK (X : Ctx) (o : Option (Value × Mm)) (d : Option Tmp) (l : List AOper) (fr : Fr) (Q : Fr → Mm → Prop) : Prop := ∃ v s', o = some (v, s') ∧ WO X l (puT fr d v) s' Q
def CallK (X : Ctx) (f : FuncId) (args : List Value) (d : Option Tmp) (l : List AOper) (fr : Fr) (s : Mm) (Q : Fr → Mm → Prop) : Prop := ∃ v s', Call X f args s v s' ∧ WO X l (puT fr d v) s' Q
theorem qag {v : Value} {d : Option Tmp} {l : List AOper} {fr : Fr} {s : Mm} {Q : Fr → Mm → Prop} : PureK X (some v) d l fr s Q = WO X l (puT fr d v) s Q := by
  apply propext
  constructor
  · rintro ⟨v', h, g⟩; cases h; exact g
  · intro h; exact ⟨v, rfl, h⟩
theorem MemK_some {v : Value} {s' : Mm} {d : Option Tmp} {l : List AOper} {fr : Fr} {Q : Fr → Mm → Prop} : MemK X (some (v, s')) d l fr Q = WO X l (puT fr d v) s' Q := by
  apply propext
  constructor
  · rintro ⟨v', s1, h, g⟩; cases h; exact g
  · intro h; exact ⟨v, s', rfl, h⟩
theorem CallK_of {f : FuncId} {args : List Value} {d : Option Tmp} {l : List AOper} {fr : Fr} {s : Mm} {Q : Fr → Mm → Prop} {P : Value → Mm → Prop} (h : CallP X f args s P) (g : ∀ v s', P v s' → WO X l (puT fr d v) s' Q) : CallK X f args d l fr s Q := by
  obtain ⟨v, s', h1, h2⟩ := h
  exact ⟨v, s', h1, g v s' h2⟩
theorem CallK_eq {f : FuncId} {args : List Value} {d : Option Tmp} {l : List AOper} {fr : Fr} {s s' : Mm} {v : Value} {Q : Fr → Mm → Prop} (h : Call X f args s v s') (g : WO X l (puT fr d v) s' Q) : CallK X f args d l fr s Q := ⟨v, s', h, g⟩
theorem qaj {fr : Fr} {s : Mm} {Q : Fr → Mm → Prop} : WO X [] fr s Q = Q fr s := by
  apply propext
  constructor
  · rintro ⟨n, f, s1, h, g⟩; simp only [evOps, Option.some.injEq, Prod.mk.injEq] at h; obtain ⟨rfl, rfl⟩ := h; exact g
  · intro h; exact ⟨0, _, _, rfl, h⟩
def stepS (fr : Fr) (s : Mm) (op : AOp) : Option (Value × Mm) := stepV (fun _ _ _ => none) fr s op
def noCall : AOp → Bool
  | .call .. => false
  | _ => true
theorem stepV_noCall (cf : CallF (FunS ABlk)) {op : AOp} (h : noCall op = true) (fr : Fr) (s : Mm) : stepV cf fr s op = stepS fr s op := by
  unfold stepS
  cases op <;> first | rfl | cases h
theorem WO_step {op : AOp} {d : Option Tmp} {l : List AOper} {fr : Fr} {s : Mm} {Q : Fr → Mm → Prop} (h : noCall op = true) :
    WO X (⟨op, d, none⟩ :: l) fr s Q = MemK X (stepS fr s op) d l fr Q := by
  apply propext
  constructor
  · rintro ⟨n, f, s1, e, g⟩
    simp only [evOps, wantV, if_true, stepV_noCall _ h] at e
    split at e
    · rename_i v s' hs
      exact ⟨v, s', hs, n, f, s1, e, g⟩
    · cases e
  · rintro ⟨v, s', hs, n, f, s1, e, g⟩
    exact ⟨n, f, s1, by simp only [evOps, wantV, if_true, stepV_noCall _ h, hs, e], g⟩
theorem WO_guard {op : AOp} {d : Option Tmp} {t : Tmp} {b : Bool} {l : List AOper} {fr : Fr} {s : Mm} {Q : Fr → Mm → Prop} :
    WO X (⟨op, d, some (t, b)⟩ :: l) fr s Q = if wantV fr (some (t, b)) = true then WO X (⟨op, d, none⟩ :: l) fr s Q else WO X l (puT fr d undefV) s Q := by
  split
  · rename_i hw
    apply propext
    constructor
    · rintro ⟨n, f, s1, e, g⟩
      refine ⟨n, f, s1, ?_, g⟩
      simp only [evOps] at e ⊢
      rw [if_pos hw] at e
      simp only [wantV, if_true]
      exact e
    · rintro ⟨n, f, s1, e, g⟩
      refine ⟨n, f, s1, ?_, g⟩
      simp only [evOps] at e ⊢
      rw [if_pos hw]
      simp only [wantV, if_true] at e
      exact e
  · rename_i hw
    apply propext
    constructor
    · rintro ⟨n, f, s1, e, g⟩
      exact ⟨n, f, s1, by simp only [evOps] at e; rw [if_neg hw] at e; exact e, g⟩
    · rintro ⟨n, f, s1, e, g⟩
      exact ⟨n, f, s1, by simp only [evOps]; rw [if_neg hw]; exact e, g⟩
theorem WO_pure {op : AOp} {d : Option Tmp} {l : List AOper} {fr : Fr} {s : Mm} {Q : Fr → Mm → Prop} (h : op.kind = .pur) :
    WO X (⟨op, d, none⟩ :: l) fr s Q = PureK X (pureV fr op) d l fr s Q := by
  rw [WO_step (by cases op <;> first | rfl | cases h)]
  unfold MemK PureK stepS stepV
  rw [h]
  apply propext
  constructor
  · rintro ⟨v, s', e, g⟩
    obtain ⟨v', h1, h2⟩ := Option.map_eq_some_iff.1 e
    cases h2
    exact ⟨v, h1, g⟩
  · rintro ⟨v, e, g⟩
    exact ⟨v, s, by simp only [e, Option.map_some], g⟩
theorem WO_read {op : AOp} {d : Option Tmp} {l : List AOper} {fr : Fr} {s : Mm} {Q : Fr → Mm → Prop} (h : op.kind = .rd) :
    WO X (⟨op, d, none⟩ :: l) fr s Q = PureK X (readV fr s op) d l fr s Q := by
  rw [WO_step (by cases op <;> first | rfl | cases h)]
  unfold MemK PureK stepS stepV
  rw [h]
  apply propext
  constructor
  · rintro ⟨v, s', e, g⟩
    obtain ⟨v', h1, h2⟩ := Option.map_eq_some_iff.1 e
    cases h2
    exact ⟨v, h1, g⟩
  · rintro ⟨v, e, g⟩
    exact ⟨v, s, by simp only [e, Option.map_some], g⟩
def NewK (X : Ctx) (o : Option (Value × ABlk)) (d : Option Tmp) (l : List AOper) (fr : Fr) (s : Mm) (Q : Fr → Mm → Prop) : Prop := ∃ v b, o = some (v, b) ∧ WO X l (puT fr d v) (newAt s b) Q
theorem NewK_some {v : Value} {b : ABlk} {d : Option Tmp} {l : List AOper} {fr : Fr} {s : Mm} {Q : Fr → Mm → Prop} : NewK X (some (v, b)) d l fr s Q = WO X l (puT fr d v) (newAt s b) Q := by
  apply propext
  constructor
  · rintro ⟨v', s1, h, g⟩; cases h; exact g
  · intro h; exact ⟨v, b, rfl, h⟩
theorem WO_new {op : AOp} {d : Option Tmp} {l : List AOper} {fr : Fr} {s : Mm} {Q : Fr → Mm → Prop} (h : op.kind = .new) :
    WO X (⟨op, d, none⟩ :: l) fr s Q = NewK X (newV fr s.nxt op) d l fr s Q := by
  rw [WO_step (by cases op <;> first | rfl | cases h)]
  unfold MemK NewK stepS stepV
  rw [h]
  apply propext
  constructor
  · rintro ⟨v, s', e, g⟩
    obtain ⟨⟨v', b⟩, h1, h2⟩ := Option.map_eq_some_iff.1 e
    cases h2
    exact ⟨_, b, h1, g⟩
  · rintro ⟨v, b, e, g⟩
    exact ⟨v, newAt s b, by simp only [e, Option.map_some], g⟩
theorem WO_call {f : FuncId} {xs : List Operand} {d : Option Tmp} {l : List AOper} {fr : Fr} {s : Mm} {Q : Fr → Mm → Prop} :
    WO X (⟨.call (.func f) xs, d, none⟩ :: l) fr s Q = CallK X f (xs.map (evO fr)) d l fr s Q := by
  have hcf : ∀ n, stepV (X.cf n) fr s (.call (.func f) xs) = X.cf n f (xs.map (evO fr)) s := fun n => by
    show (X.cf n) f ((#[] : Array Value).toList ++ xs.map (evO fr) ++ (#[] : Array Value).toList) s = _
    simp
  apply propext
  constructor
  · rintro ⟨n, f', s1, e, g⟩
    simp only [evOps, wantV, if_true, hcf] at e
    split at e
    · rename_i v s' hs
      exact ⟨v, s', ⟨n, hs⟩, n, f', s1, e, g⟩
    · cases e
  · rintro ⟨v, s', ⟨m, hs⟩, n, f', s1, e, g⟩
    refine ⟨max n m, f', s1, ?_, g⟩
    simp only [evOps, wantV, if_true, hcf]
    rw [X.cf_mono m (max n m) (Nat.le_max_right n m) _ _ _ _ hs]
    exact evOps_up (Nat.le_max_left n m) e
end Go.Vam

/- Rules for operations, one by one; frames, values, memory. -/
namespace Go.Vam
open Go
variable {X : Ctx} {d : Option Tmp} {l : List AOper} {fr : Fr} {s : Mm} {Q : Fr → Mm → Prop}
theorem qad {fr : Fr} {d t : Tmp} {v : Value} : geT (puT fr (some d) v) t = if t = d then v else geT fr t := by
  show ((if t = d then some v else fr.f t)).getD undefV = _
  split <;> rfl
theorem puT_none {fr : Fr} {v : Value} : puT fr none v = fr := rfl
theorem frame_nil {i : Nat} : frameOf [] i fr = fr := rfl
theorem qbc {v : Value} {vs : List Value} {i : Nat} : frameOf (v :: vs) i fr = frameOf vs (i + 1) (puT fr (some i) v) := rfl
theorem qaf {t : Tmp} : evO fr (.tmp t) = geT fr t := rfl
theorem qae {v : Value} : evO fr (.const v) = v := rfl
def wantB (v : Value) (b : Bool) : Bool := match v with
  | .bool c => c == b
  | _ => false
theorem want_v {t : Tmp} {b : Bool} : wantV fr (some (t, b)) = wantB (geT fr t) b := rfl
theorem wantB_t {c : Bool} : wantB (.bool c) true = c := by cases c <;> rfl
theorem wantB_f {c : Bool} : wantB (.bool c) false = !c := by cases c <;> rfl
theorem qab {fr1 fr' : Fr} {P : Prop} : Keep [] fr1 fr' P = P := rfl
theorem qaa {t : Tmp} {L : List Nat} {fr1 fr' : Fr} {P : Prop} : Keep (t :: L) fr1 fr' P = (geT fr1 t = geT fr' t → Keep L fr1 fr' P) := rfl
theorem qac {L : List Nat} {Q : Fr → Mm → Prop} {fr : Fr} {s : Mm} : KeepK L Q fr s = ∀ fr1 : Fr, Keep L fr1 fr (Q fr1 s) := rfl
def pickV : Value → Value → Value → Option Value
  | .bool t, a, b => some (if t = true then a else b)
  | _, _, _ => none
def nilCheckV : Value → Option Value
  | .pointer (some a) => some (.pointer (some a))
  | .func (.func f) a b => some (.func (.func f) a b)
  | _ => none
def extractV : Value → Nat → Option Value
  | .tuple vs, i => vs.toList[i]?
  | _, _ => none
def fieldV (off : Nat) (n : Option Nat) : Value → Option Value
  | .agg cs => partV cs.toList off n
  | _ => none
def fieldAddrV (off : Nat) : Value → Option Value
  | .pointer (some a) => some (.pointer (some (a.add off)))
  | _ => none
def addrArrV (len sz : Nat) (x i : Value) : Option Value := match x, idxV i len with
  | .pointer (some a), some j => some (.pointer (some (a.add (j * sz))))
  | _, _ => none
def addrSlV (sz : Nat) (x i : Value) : Option Value := match x with
  | .slice (some a) len _ => match idxV i len with
    | some j => some (.pointer (some (a.add (j * sz))))
    | none => none
  | _ => none
def idxArrV (len sz : Nat) (agg : Bool) (x i : Value) : Option Value := match x with
  | .agg cs => match idxV i len with
    | some j => partV cs.toList (j * sz) (if agg then some sz else none)
    | none => none
  | _ => none
def idxStrV (x i : Value) : Option Value := match x, i with
  | .string s, .int _ n => if 0 ≤ n then (s.data.toList[n.toNat]?).map fun b => .int .u8 b.toNat else none
  | _, _ => none
def slStrV (x : Value) (lo hi : Option Value) : Option Value := match x with
  | .string s => match bounds s.size s.size lo hi none with
    | some (l, h, _) => some (.string (s.extract l h))
    | none => none
  | _ => none
def slArrV (n sz : Nat) (x : Value) (lo hi mx : Option Value) : Option Value := match x with
  | .pointer (some a) => match bounds n n lo hi mx with
    | some (l, h, m) => some (.slice (some (if m = l then a else a.add (l * sz))) (h - l) (m - l))
    | none => none
  | _ => none
def eqBV (neg : Bool) (t : ATy) (x y : Value) : Option Value := (eqV t x y).map fun b => .bool (if neg then !b else b)
def buildV (zero : List Value) (ps : List (Nat × Nat × Value)) : Option Value := (fillL zero ps).map fun cs => .agg cs.toArray
def textV (s : Mm) : Value → Option Value
  | .slice none _ _ => some (.string .empty)
  | .slice (some a) len _ => match cellsAt s a len with
    | some cs => (bytesOfCells cs).map fun l => .string ⟨l.toArray⟩
    | none => none
  | _ => none
def storeV (s : Mm) (n : Nat) (a x : Value) : Option (Value × Mm) := match a with
  | .pointer (some p) => if x.cells.size = n then (putCells s p x.cells.toList).map fun s' => (undefV, s') else none
  | _ => none
def buildSlV (s : Mm) (sz : Nat) (zero : List Value) (len : Nat) (ps : List (Nat × Nat × Value)) : Option (Value × ABlk) :=
  (fillL (repZ zero len) ps).map fun cs => (.slice (some ⟨s.nxt, 0, none⟩) len len, .cells cs false)
def makeSlV (s : Mm) (bytes : Nat) (zero : List Value) (l c : Value) : Option (Value × ABlk) := match l, c with
  | .int _ l, .int _ c =>
    if 0 ≤ l ∧ l ≤ c ∧ c < 4611686018427387904 ∧ bytes * c.toNat ≤ 281474976710656 then
      some (.slice (some ⟨s.nxt, 0, none⟩) l.toNat c.toNat, .cells (repZ zero c.toNat) false)
    else none
  | _, _ => none
theorem qah {x : Operand} : WO X (⟨.move x, d, none⟩ :: l) fr s Q = WO X l (puT fr d (evO fr x)) s Q := by rw [WO_pure rfl]; exact qag
theorem WO_pick {c a b : Operand} : WO X (⟨.pick c a b, d, none⟩ :: l) fr s Q = PureK X (pickV (evO fr c) (evO fr a) (evO fr b)) d l fr s Q := by
  rw [WO_pure rfl]; congr 1; simp only [pureV]; split <;> rename_i h
  · rw [h]; rfl
  · unfold pickV; split <;> first | rfl | (rename_i h'; exact absurd h' (h _))
theorem qao {op : BinOp} {x y : Operand} : WO X (⟨.bin op x y, d, none⟩ :: l) fr s Q = PureK X (binV op (evO fr x) (evO fr y)) d l fr s Q := WO_pure rfl
theorem WO_un {op : UnOp} {x : Operand} : WO X (⟨.un op x, d, none⟩ :: l) fr s Q = PureK X (unV op (evO fr x)) d l fr s Q := WO_pure rfl
theorem WO_conv {c : ConvK} {x : Operand} : WO X (⟨.conv c x, d, none⟩ :: l) fr s Q = PureK X (convV c (evO fr x)) d l fr s Q := WO_pure rfl
theorem WO_nilCheck {x : Operand} : WO X (⟨.nilCheck x, d, none⟩ :: l) fr s Q = PureK X (nilCheckV (evO fr x)) d l fr s Q := WO_pure rfl
theorem WO_extract {x : Operand} {i : Nat} : WO X (⟨.extract x i, d, none⟩ :: l) fr s Q = PureK X (extractV (evO fr x) i) d l fr s Q := by
  rw [WO_pure rfl]; congr 1
  simp only [pureV]
  cases evO fr x <;> rfl
theorem WO_fieldAddr {off : Nat} {x : Operand} : WO X (⟨.fieldAddr off x, d, none⟩ :: l) fr s Q = PureK X (fieldAddrV off (evO fr x)) d l fr s Q := WO_pure rfl
theorem WO_addrArr {len sz : Nat} {x i : Operand} : WO X (⟨.addrArr len sz x i, d, none⟩ :: l) fr s Q = PureK X (addrArrV len sz (evO fr x) (evO fr i)) d l fr s Q := WO_pure rfl
theorem WO_addrSl {sz : Nat} {x i : Operand} : WO X (⟨.addrSl sz x i, d, none⟩ :: l) fr s Q = PureK X (addrSlV sz (evO fr x) (evO fr i)) d l fr s Q := WO_pure rfl
theorem WO_idxArr {len sz : Nat} {agg : Bool} {x i : Operand} : WO X (⟨.idxArr len sz agg x i, d, none⟩ :: l) fr s Q = PureK X (idxArrV len sz agg (evO fr x) (evO fr i)) d l fr s Q := WO_pure rfl
theorem WO_idxStr {x i : Operand} : WO X (⟨.idxStr x i, d, none⟩ :: l) fr s Q = PureK X (idxStrV (evO fr x) (evO fr i)) d l fr s Q := WO_pure rfl
theorem WO_slSl {sz : Nat} {x : Operand} {lo hi mx : Option Operand} : WO X (⟨.slSl sz x lo hi mx, d, none⟩ :: l) fr s Q = PureK X (slV sz (evO fr x) (lo.map (evO fr)) (hi.map (evO fr)) (mx.map (evO fr))) d l fr s Q := WO_pure rfl
theorem WO_slArr {n sz : Nat} {x : Operand} {lo hi mx : Option Operand} : WO X (⟨.slArr n sz x lo hi mx, d, none⟩ :: l) fr s Q = PureK X (slArrV n sz (evO fr x) (lo.map (evO fr)) (hi.map (evO fr)) (mx.map (evO fr))) d l fr s Q := WO_pure rfl
theorem WO_build {z : List Value} {ps : List (Nat × Nat × Operand)} : WO X (⟨.build z ps, d, none⟩ :: l) fr s Q = PureK X (buildV z (ps.map fun p => (p.1, p.2.1, evO fr p.2.2))) d l fr s Q := WO_pure rfl
theorem WO_bu {b : ABu} {xs : List Operand} : WO X (⟨.bu b xs, d, none⟩ :: l) fr s Q = PureK X (buV b (xs.map (evO fr))) d l fr s Q := WO_pure rfl
theorem WO_load {n : Option Nat} {a : Operand} : WO X (⟨.load n a, d, none⟩ :: l) fr s Q = PureK X (loadV s n (evO fr a)) d l fr s Q := WO_read rfl
theorem WO_alloc {e : TypeId} {z : List Value} : WO X (⟨.alloc e z, d, none⟩ :: l) fr s Q = WO X l (puT fr d (.pointer (some ⟨s.nxt, 0, none⟩))) (newAt s (.cells z false)) Q := by rw [WO_new rfl]; exact NewK_some
theorem WO_box {e : TypeId} {x : Operand} : WO X (⟨.box e x, d, none⟩ :: l) fr s Q = WO X l (puT fr d (.pointer (some ⟨s.nxt, 0, none⟩))) (newAt s (.cells (evO fr x).cells.toList false)) Q := by rw [WO_new rfl]; exact NewK_some
theorem WO_buildSlice {e : TypeId} {sz : Nat} {z : List Value} {len : Nat} {ps : List (Nat × Operand)} : WO X (⟨.buildSlice e sz z len ps, d, none⟩ :: l) fr s Q = NewK X (buildSlV s sz z len (ps.map fun p => (p.1 * sz, sz, evO fr p.2))) d l fr s Q := WO_new rfl
theorem WO_makeSlice {e : TypeId} {bytes sz : Nat} {z : List Value} {a c : Operand} : WO X (⟨.makeSlice e bytes sz z a c, d, none⟩ :: l) fr s Q = NewK X (makeSlV s bytes z (evO fr a) (evO fr c)) d l fr s Q := WO_new rfl
theorem WO_store {n : Nat} {a x : Operand} : WO X (⟨.store n a x, d, none⟩ :: l) fr s Q = MemK X (storeV s n (evO fr a) (evO fr x)) d l fr Q := WO_step rfl
theorem WO_append {e : TypeId} {bytes sz : Nat} {z : List Value} {a x : Operand} : WO X (⟨.append e bytes sz z a x, d, none⟩ :: l) fr s Q = MemK X (appendV s bytes sz (evO fr a) (evO fr x)) d l fr Q := WO_step rfl
theorem WO_ext {e : Nat} {f : FuncId} {xs : List Operand} : WO X (⟨.ext e f xs, d, none⟩ :: l) fr s Q = PureK X (extV e (xs.map (evO fr))) d l fr s Q := by
  rw [WO_step rfl]
  apply propext
  constructor
  · rintro ⟨v, s', h, g⟩
    obtain ⟨v', h1, h2⟩ := Option.map_eq_some_iff.1 h
    cases h2
    exact ⟨v, h1, g⟩
  · rintro ⟨v, h, g⟩
    refine ⟨v, s, ?_, g⟩
    show (extV e (xs.map (evO fr))).map (fun v => (v, s)) = _
    rw [h]; rfl
theorem pick_b {t : Bool} {a b : Value} : pickV (.bool t) a b = some (if t = true then a else b) := rfl
theorem nilCheck_p {a : Addr} : nilCheckV (.pointer (some a)) = some (.pointer (some a)) := rfl
theorem ext_20 {a b : Value} : extractV (.tuple #[a, b]) 0 = some a := rfl
theorem ext_21 {a b : Value} : extractV (.tuple #[a, b]) 1 = some b := rfl
theorem fieldAddr_p {off B o : Nat} : fieldAddrV off (.pointer (some ⟨B, o, none⟩)) = some (.pointer (some ⟨B, o + off, none⟩)) := by
  simp only [fieldAddrV, add_none']
theorem qax {k : IntKind} {a b : Int} : binV .add (.int k a) (.int k b) = some (.int k (wrapK k (a + b))) := by simp [binV]
theorem qbd {k : IntKind} {a b : Int} : binV .sub (.int k a) (.int k b) = some (.int k (wrapK k (a - b))) := by simp [binV]
theorem bin_mul {k : IntKind} {a b : Int} : binV .mul (.int k a) (.int k b) = some (.int k (wrapK k (a * b))) := by simp [binV]
theorem bin_quo {k : IntKind} {a b : Int} : binV .quo (.int k a) (.int k b) = if b = 0 then none else some (.int k (wrapK k (a.tdiv b))) := by
  by_cases h : b = 0 <;> simp [binV, h]
theorem bin_and {k : IntKind} {a b : Int} : binV .and (.int k a) (.int k b) = (intBitsV .and k a b).map (.int k) := by simp [binV]
theorem bin_xor {k : IntKind} {a b : Int} : binV .xor (.int k a) (.int k b) = (intBitsV .xor k a b).map (.int k) := by simp [binV]
theorem bin_shl {k k' : IntKind} {a b : Int} : binV .shl (.int k a) (.int k' b) = (shiftV .shl k a b).map (.int k) := rfl
theorem bin_shr {k k' : IntKind} {a b : Int} : binV .shr (.int k a) (.int k' b) = (shiftV .shr k a b).map (.int k) := rfl
theorem bin_eql {k : IntKind} {a b : Int} : binV .eql (.int k a) (.int k b) = some (.bool (decide (a = b))) := by
  simp [binV]; rw [Bool.eq_iff_iff]; simp
theorem bin_neq {k : IntKind} {a b : Int} : binV .neq (.int k a) (.int k b) = some (.bool (!decide (a = b))) := by
  simp [binV, bne]; rw [Bool.eq_iff_iff]; simp
theorem bin_lss {k : IntKind} {a b : Int} : binV .lss (.int k a) (.int k b) = some (.bool (decide (a < b))) := by simp [binV]
theorem bin_leq {k : IntKind} {a b : Int} : binV .leq (.int k a) (.int k b) = some (.bool (decide (a ≤ b))) := by simp [binV]
theorem bin_gtr {k : IntKind} {a b : Int} : binV .gtr (.int k a) (.int k b) = some (.bool (decide (b < a))) := by simp [binV]
theorem bin_geq {k : IntKind} {a b : Int} : binV .geq (.int k a) (.int k b) = some (.bool (decide (b ≤ a))) := by simp [binV]
theorem binf_neq {k : FloatKind} {a b : Nat} : binV .neq (.float k a) (.float k b) = some (.bool (!(ford k a b == some .eq))) := by simp [binV, bne]
theorem un_not {b : Bool} : unV .not (.bool b) = some (.bool !b) := rfl
theorem conv_int {k k' : IntKind} {n : Int} : convV (.toInt k) (.int k' n) = some (.int k (wrapK k n)) := rfl
theorem bu_len {a : Option Addr} {n c : Nat} : buV .len [.slice a n c] = some (.int .i64 n) := rfl
theorem qal {n : Int} (h1 : -9223372036854775808 ≤ n) (h2 : n ≤ 9223372036854775807) : wrapK .i64 n = n := by
  rw [wrapK_eq]; simp [IntKind.wrap, IntKind.bits, IntKind.signed]; omega
theorem wrap_u64 {n : Int} (h1 : 0 ≤ n) (h2 : n ≤ 18446744073709551615) : wrapK .u64 n = n := by simp only [wrapK]; omega
theorem wrap_u8 {n : Int} (h1 : 0 ≤ n) (h2 : n ≤ 255) : wrapK .u8 n = n := by simp only [wrapK]; omega
def blk (s : Mm) (B : Nat) : Option (List Value) := match Store.get s.h B with
  | some (.cells cs _) => some cs
  | some (.ro cs) => some cs
  | _ => none
theorem blk_cells {B : Nat} {cs : List Value} {o : Bool} (h : Store.get s.h B = some (.cells cs o)) : blk s B = some cs := by simp only [blk, h]
theorem blk_ro {B : Nat} {cs : List Value} (h : Store.get s.h B = some (.ro cs)) : blk s B = some cs := by simp only [blk, h]
theorem get_new {B : Nat} {b : ABlk} : Store.get (newAt s b).h B = if B = s.nxt then some b else Store.get s.h B := rfl
theorem nxt_new {b : ABlk} : (newAt s b).nxt = s.nxt + 1 := rfl
theorem blk_new_self {cs : List Value} {o : Bool} : blk (newAt s (.cells cs o)) s.nxt = some cs := by simp only [blk, get_new, if_true]
def setBlk (s : Mm) (B : Nat) (b : ABlk) : Mm := { s with h := Store.put s.h B (some b) }
theorem get_set {B B' : Nat} {b : ABlk} : Store.get (setBlk s B b).h B' = if B' = B then some b else Store.get s.h B' := rfl
theorem load_1 {B o : Nat} : loadV s none (.pointer (some ⟨B, o, none⟩)) = (blk s B).bind fun cs => cs[o]? := by
  simp only [loadV, cellAt, blk]
  split
  · rename_i h; rw [h]; rfl
  · rename_i h; rw [h]; rfl
  · split <;> first | rfl | simp_all
theorem load_n {n B o : Nat} : loadV s (some n) (.pointer (some ⟨B, o, none⟩)) = (blk s B).bind fun cs => if o + n ≤ cs.length then some (.agg ((cs.drop o).take n).toArray) else none := by
  simp only [loadV, cellsAt, blk]
  split
  · rename_i h; rw [h]; simp
  · rename_i h; rw [h]; simp
  · split <;> first | rfl | simp_all
inductive SlC (s : Mm) (sz : Nat) : Value → Nat → List Value → Prop
  | nil : SlC s sz (.slice none 0 0) 0 []
  | mk {B o n cap : Nat} {all cs : List Value} (h : blk s B = some all) (hB : B < s.nxt) (hc : cs = (all.drop o).take (n * sz)) (ho : o + n * sz ≤ all.length)
      (hcap : (n ≤ cap ∧ cap < OPEN) ∨ (sz < OPEN ∧ ∃ g, n ≤ g ∧ cap = halfC sz g n)) : SlC s sz (.slice (some ⟨B, o, none⟩) n cap) n cs
def elP (v : Value) (off : Nat) : Value := match v with
  | .slice (some a) _ _ => .pointer (some (a.add off))
  | _ => undefV
theorem SlC.length {sz n : Nat} {v : Value} {cs : List Value} (h : SlC s sz v n cs) : cs.length = n * sz := by
  cases h with
  | nil => simp
  | mk h hB hc ho => subst hc; simp; omega
theorem SlC.len {sz n : Nat} {v : Value} {cs : List Value} (h : SlC s sz v n cs) : buV .len [v] = some (.int .i64 n) := by cases h <;> rfl
theorem SlC.addr {sz n : Nat} {v : Value} {cs : List Value} (h : SlC s sz v n cs) {kk : IntKind} {i : Int} {k : Nat} (hi : i = k) (hk : k < n) : addrSlV sz v (.int kk i) = some (elP v (k * sz)) := by
  cases h with
  | nil => omega
  | mk h hB hc ho =>
    subst hi
    simp only [addrSlV, idxV]
    rw [if_pos ⟨by omega, by omega⟩]
    simp [elP]
theorem SlC.load {sz n : Nat} {v : Value} {cs : List Value} (h : SlC s sz v n cs) {j : Nat} {c : Value} (hj : cs[j]? = some c) : loadV s none (elP v j) = some c := by
  cases h with
  | nil => simp at hj
  | mk h hB hc ho =>
    subst hc
    simp only [elP, add_none', load_1, h, Option.bind_some]
    rw [List.getElem?_take] at hj
    split at hj
    · rw [List.getElem?_drop] at hj; exact hj
    · cases hj
theorem SlC.loads {sz n m : Nat} {v : Value} {cs : List Value} (h : SlC s sz v n cs) {j : Nat} (hj : j + m ≤ n * sz) (hn : 0 < n) : loadV s (some m) (elP v j) = some (.agg ((cs.drop j).take m).toArray) := by
  cases h with
  | nil => omega
  | mk h hB hc ho =>
    subst hc
    simp only [elP, add_none', load_n, h, Option.bind_some]
    rw [if_pos (by omega)]
    congr 3
    rw [List.drop_take, List.take_take, List.drop_drop, Nat.min_eq_left (by omega)]
def subS (sz : Nat) (v : Value) (l h : Nat) : Value := (slV sz v (some (.int .i64 l)) (some (.int .i64 h)) none).getD undefV
theorem bnd_int {kk : IntKind} {i : Int} {k y : Nat} (hi : i = k) (hk : k ≤ y) : bndV (.int kk i) y = some k := by
  subst hi; simp only [bndV]; rw [if_pos ⟨by omega, by omega⟩]; simp
theorem bounds_lh {len cap l h : Nat} (hh : h ≤ cap) (hl : l ≤ h) : bounds len cap (some (.int .i64 l)) (some (.int .i64 h)) none = some (l, h, cap) := by
  have h1 := bnd_int (kk := .i64) (i := (h : Int)) rfl hh
  have h2 := bnd_int (kk := .i64) (i := (l : Int)) rfl hl
  delta bounds
  simp only [h1, h2]
theorem halfC_self {sz n : Nat} : halfC sz n n = OPEN + sz := by unfold halfC; rw [if_pos rfl]
theorem halfC_big {sz g n : Nat} : ¬ halfC sz g n < OPEN := by
  unfold halfC
  split
  · omega
  · rw [Nat.mul_add]; omega
theorem slV_half {sz n g l h : Nat} {a : Option Addr} {lo hi : Option Value} (hz : sz < OPEN) (hg : n ≤ g) (hb : bounds n g lo hi none = some (l, h, g)) :
    slV sz (.slice a n (halfC sz g n)) lo hi none = some (.slice (a.map (·.add (l * sz))) (h - l) (halfC sz (g - l) (h - l))) := by
  have hO : OPEN = 18446744073709551616 := rfl
  simp only [slV, if_neg halfC_big]
  by_cases e : g = n
  · subst e
    rw [if_pos ⟨halfC_self, hz⟩, hb]
  · have hh : halfC sz g n = OPEN * (g + 2) + sz := by unfold halfC; rw [if_neg e]
    have hdiv : (OPEN * (g + 2) + sz) / OPEN = g + 2 := by rw [Nat.mul_add_div (by decide), Nat.div_eq_of_lt hz]
    have hmod : (OPEN * (g + 2) + sz) % OPEN = sz := by rw [Nat.mul_add_mod, Nat.mod_eq_of_lt hz]
    have hne : ¬ (OPEN * (g + 2) + sz = OPEN + sz ∧ sz < OPEN) := fun hx => by have := hx.1; rw [Nat.mul_add] at this; omega
    rw [hh, if_neg hne, if_pos ⟨by rw [Nat.mul_add]; omega, hmod, by rw [hdiv]; omega⟩, hdiv, show g + 2 - 2 = g by omega, hb]
theorem SlC.sub' {sz n : Nat} {v : Value} {cs : List Value} (hs : SlC s sz v n cs) {l h : Nat} (hl : l ≤ h) (hh : h ≤ n) :
    slV sz v (some (.int .i64 l)) (some (.int .i64 h)) none = some (subS sz v l h) ∧ SlC s sz (subS sz v l h) (h - l) ((cs.drop (l * sz)).take ((h - l) * sz)) := by
  suffices hx : ∃ u, slV sz v (some (.int .i64 l)) (some (.int .i64 h)) none = some u ∧ SlC s sz u (h - l) ((cs.drop (l * sz)).take ((h - l) * sz)) by
    obtain ⟨u, h1, h2⟩ := hx
    unfold subS
    rw [h1]
    exact ⟨rfl, h2⟩
  cases hs with
  | nil =>
    have : h = 0 := by omega
    have : l = 0 := by omega
    subst_vars
    exact ⟨.slice none 0 0, by simp only [slV, bounds_lh (Nat.le_refl _) (Nat.le_refl _), OPEN]; simp, by simpa using SlC.nil⟩
  | @mk B o n cap all cs hb hB hc ho hcap =>
    subst hc
    have hmul : h * sz = l * sz + (h - l) * sz := by rw [← Nat.add_mul]; congr 1; omega
    have hmul2 : h * sz ≤ n * sz := Nat.mul_le_mul_right _ hh
    have hcells : ((all.drop o |>.take (n * sz)).drop (l * sz)).take ((h - l) * sz) = (all.drop (o + l * sz)).take ((h - l) * sz) := by
      rw [List.drop_take, List.take_take, List.drop_drop, Nat.min_eq_left (by omega)]
    rcases hcap with ⟨h1, h2⟩ | h1
    · simp only [slV, if_pos h2, bounds_lh (show h ≤ cap by omega) hl]
      by_cases e : cap = l
      · rw [if_pos e]
        have e1 : h - l = 0 := by omega
        refine ⟨_, rfl, ?_⟩
        refine SlC.mk hb hB ?_ (by rw [e1]; omega) (.inl ⟨by omega, by omega⟩)
        rw [hcells, e1]; simp
      · rw [if_neg e]
        simp only [Option.map_some, add_none']
        exact ⟨_, rfl, .mk hb hB hcells (by omega) (.inl ⟨by omega, by omega⟩)⟩
    · obtain ⟨hz, g, hg, rfl⟩ := h1
      rw [slV_half hz hg (bounds_lh (by omega) hl)]
      simp only [Option.map_some, add_none']
      exact ⟨_, rfl, .mk hb hB hcells (by omega) (.inr ⟨hz, g - l, by omega, rfl⟩)⟩
theorem SlC.sub {sz n : Nat} {v : Value} {cs : List Value} (hs : SlC s sz v n cs) {l h : Nat} (hl : l ≤ h) (hh : h ≤ n) : SlC s sz (subS sz v l h) (h - l) ((cs.drop (l * sz)).take ((h - l) * sz)) := (hs.sub' hl hh).2
theorem bounds_kk {len cap l h : Nat} {k1 k2 : IntKind} {i j : Int} (hi : i = l) (hj : j = h) : bounds len cap (some (.int k1 i)) (some (.int k2 j)) none = bounds len cap (some (.int .i64 l)) (some (.int .i64 h)) none := by
  subst hi; subst hj; rfl
theorem bounds_lo0 {len cap h : Nat} {k2 : IntKind} {j : Int} (hj : j = h) : bounds len cap none (some (.int k2 j)) none = bounds len cap (some (.int .i64 (0 : Nat))) (some (.int .i64 h)) none := by
  subst hj; delta bounds; simp [bndV]
theorem bounds_hi {len cap l : Nat} {k1 : IntKind} {i : Int} (hi : i = l) (hc : len ≤ cap) : bounds len cap (some (.int k1 i)) none none = bounds len cap (some (.int .i64 l)) (some (.int .i64 len)) none := by
  subst hi
  have h1 := bnd_int (kk := .i64) (i := (len : Int)) rfl hc
  delta bounds
  simp only [h1]
  rfl
theorem bounds_hi' {len cap l : Nat} {k1 : IntKind} {i : Int} (hi : i = l) (hc : len ≤ cap) (hl : l ≤ len) : bounds len cap (some (.int k1 i)) none none = some (l, len, cap) := by
  rw [bounds_hi hi hc, bounds_lh hc hl]
theorem SlC.sl {sz n : Nat} {v : Value} {cs : List Value} (hs : SlC s sz v n cs) {l h : Nat} {k1 k2 : IntKind} {i j : Int} (hi : i = l) (hj : j = h) (hl : l ≤ h) (hh : h ≤ n) : slV sz v (some (.int k1 i)) (some (.int k2 j)) none = some (subS sz v l h) := by
  rw [← (hs.sub' hl hh).1]
  cases hs <;> simp only [slV, bounds_kk hi hj]
theorem SlC.sl0 {sz n : Nat} {v : Value} {cs : List Value} (hs : SlC s sz v n cs) {h : Nat} {k2 : IntKind} {j : Int} (hj : j = h) (hh : h ≤ n) : slV sz v none (some (.int k2 j)) none = some (subS sz v 0 h) := by
  rw [← (hs.sub' (Nat.zero_le _) hh).1]
  cases hs <;> simp only [slV, bounds_lo0 hj]
theorem SlC.slE {sz n : Nat} {v : Value} {cs : List Value} (hs : SlC s sz v n cs) {l : Nat} {k1 : IntKind} {i : Int} (hi : i = l) (hl : l ≤ n) : slV sz v (some (.int k1 i)) none none = some (subS sz v l n) := by
  rw [← (hs.sub' hl (Nat.le_refl _)).1]
  cases hs with
  | nil =>
    have hO : (0 : Nat) < OPEN := by decide
    simp only [slV, if_pos hO, bounds_hi hi (Nat.le_refl _)]
  | mk h hB hc ho hcap =>
    rcases hcap with ⟨h1, h2⟩ | h1
    · simp only [slV, if_pos h2, bounds_hi hi h1]
    · obtain ⟨hz, g, hg, rfl⟩ := h1
      rw [slV_half hz hg (bounds_hi' hi hg hl), slV_half hz hg (bounds_lh hg hl)]
structure Same (s s' : Mm) (F : Nat → Prop) : Prop where
  nxt : s.nxt ≤ s'.nxt
  get : ∀ B, B < s.nxt → ¬ F B → Store.get s'.h B = Store.get s.h B
theorem Same.refl (s : Mm) (F : Nat → Prop) : Same s s F := ⟨Nat.le_refl _, fun _ _ _ => rfl⟩
theorem Same.trans {s s1 s2 : Mm} {F F' G : Nat → Prop} (h : Same s s1 F) (g : Same s1 s2 F') (h1 : ∀ B, B < s.nxt → F B → G B) (h2 : ∀ B, B < s.nxt → F' B → G B) : Same s s2 G :=
  ⟨Nat.le_trans h.nxt g.nxt, fun B hB hG => by rw [g.get B (Nat.lt_of_lt_of_le hB h.nxt) (fun hx => hG (h2 B hB hx)), h.get B hB (fun hx => hG (h1 B hB hx))]⟩
theorem Same.blk {s s' : Mm} {F : Nat → Prop} (h : Same s s' F) {B : Nat} (hB : B < s.nxt) (hF : ¬ F B) : blk s' B = Vam.blk s B := by simp only [Vam.blk, h.get B hB hF]
theorem Same.new {s : Mm} {b : ABlk} {F : Nat → Prop} : Same s (newAt s b) F := ⟨Nat.le_succ _, fun B hB _ => by rw [get_new, if_neg (by omega)]⟩
theorem Same.set {s : Mm} {B : Nat} {b : ABlk} {F : Nat → Prop} (h : F B) : Same s (setBlk s B b) F := ⟨Nat.le_refl _, fun B' _ hF => by rw [get_set, if_neg (fun e => hF (by rw [e]; exact h))]⟩
def footV : Value → Nat → Prop
  | .slice (some a) _ _, b => b = a.block
  | .pointer (some a), b => b = a.block
  | _, _ => False
theorem SlC.same {s s' : Mm} {F : Nat → Prop} {sz n : Nat} {v : Value} {cs : List Value} (h : SlC s sz v n cs) (g : Same s s' F) (hF : ∀ b, footV v b → ¬ F b) : SlC s' sz v n cs := by
  cases h with
  | nil => exact .nil
  | mk h hB hc ho hcap => exact .mk (by rw [g.blk hB (hF _ rfl)]; exact h) (Nat.lt_of_lt_of_le hB g.nxt) hc ho hcap
theorem SlC.foot {sz n : Nat} {v : Value} {cs : List Value} (h : SlC s sz v n cs) : ∀ b, footV v b → b < s.nxt := by
  cases h with
  | nil => intro b hb; exact hb.elim
  | mk h hB hc ho hcap => intro b hb; simp only [footV] at hb; omega
end Go.Vam

/- Rules for regions that draw their order; tests. -/
namespace Go.Vam
open Go
variable {X : Ctx}
def setH (s : Mm) (h : FunS ABlk) : Mm := { s with h := h }
def actP (X : Ctx) (fr : Fr) (s : Mm) (op : AOp) (v : Value) (s' : Mm) : Prop := match op with
  | .call (.func f) xs => Call X f (xs.map (evO fr)) s v s'
  | .call (.tmp t) xs => match geT fr t with
    | .func (.func g) a b => Call X g (a.toList ++ xs.map (evO fr) ++ b.toList) s v s'
    | _ => False
  | op => actV (fun _ _ _ => none) fr s op = some (v, s')
theorem actP_run {fr : Fr} {s : Mm} {op : AOp} {v : Value} {s' : Mm} (h : actP X fr s op v s') : ∃ n, actV (X.cf n) fr s op = some (v, s') := by
  unfold actP at h
  split at h
  · rename_i f xs
    obtain ⟨n, hn⟩ := h
    refine ⟨n, ?_⟩
    show (X.cf n) f ((#[] : Array Value).toList ++ xs.map (evO fr) ++ (#[] : Array Value).toList) s = _
    simpa using hn
  · rename_i t xs
    split at h
    · rename_i g a b hg
      obtain ⟨n, hn⟩ := h
      refine ⟨n, ?_⟩
      show (match evO fr (.tmp t) with
        | .func (.func g) a b => (X.cf n) g (a.toList ++ xs.map (evO fr) ++ b.toList) s
        | _ => none) = _
      rw [qaf, hg]
      exact hn
    · exact h.elim
  · exact ⟨0, actV_mono (fun _ _ _ _ e => by cases e) h⟩
def WD (X : Ctx) : List DOper → Nat → Fr → Mm → List Mm → List Nat → List (Nat × Nat × ABlk) → Nat → List (Nat × (Mm → Bool)) → (Fr → Mm → Prop) → Prop
  | [], _, fr, s, _, _, flt, _, _, Q => Q fr { s with h := joinAll flt s.h }
  | o :: l, i, fr, s, hist, acts, flt, nid, ws, Q =>
    if wantV fr o.o.guard = true then
      match o.o.op.kind with
      | .pur => ∃ v, pureV fr o.o.op = some v ∧ WD X l (i + 1) (puT fr o.o.dst v) s hist acts flt nid ws Q
      | .rd => ∃ v, readV fr s o.o.op = some v ∧ pastOk fr o.o.op v o.pre acts hist = true ∧ WD X l (i + 1) (puT fr o.o.dst v) s hist acts flt nid ((i, fun s' => stillV s' ⟨i, fr, o.o.op, v⟩) :: ws) Q
      | .new => ∃ v b, newV fr nid o.o.op = some (v, b) ∧ WD X l (i + 1) (puT fr o.o.dst v) s hist acts ((i, nid, b) :: flt) (nid + 1) ws Q
      | .act => preHead o.pre acts = true ∧ ∃ v s', actP X fr { s with h := (joinF o.pre flt s.h).1 } o.o.op v s' ∧ (ws.all fun w => o.pre.testBit w.1 || w.2 s') = true ∧
          WD X l (i + 1) (puT fr o.o.dst v) s' (s :: hist) (i :: acts) (joinF o.pre flt s.h).2 nid (ws.filter fun w => !o.pre.testBit w.1) Q
    else
      match o.o.op.kind with
      | .pur => WD X l (i + 1) (puT fr o.o.dst undefV) s hist acts flt nid ws Q
      | .rd => WD X l (i + 1) (puT fr o.o.dst undefV) s hist acts flt nid ws Q
      | .new => WD X l (i + 1) (puT fr o.o.dst undefV) s hist acts flt (nid + 1) ws Q
      | .act => preHead o.pre acts = true ∧ (ws.all fun w => o.pre.testBit w.1 || w.2 { s with h := (joinF o.pre flt s.h).1 }) = true ∧
          WD X l (i + 1) (puT fr o.o.dst undefV) { s with h := (joinF o.pre flt s.h).1 } (s :: hist) (i :: acts) (joinF o.pre flt s.h).2 nid (ws.filter fun w => !o.pre.testBit w.1) Q
theorem all_watch {wl : List (Watch Fr)} {pre : Nat} {s' : Mm} : (wl.all fun w => pre.testBit w.i || stillV s' w) = ((wl.map (fun w => (w.i, fun s' => stillV s' w))).all fun w : Nat × (Mm → Bool) => pre.testBit w.1 || w.2 s') := by
  rw [List.all_map]; rfl
theorem filter_watch {wl : List (Watch Fr)} {pre : Nat} : (wl.filter fun w => !pre.testBit w.i).map (fun w => (w.i, fun s' => stillV s' w)) = (wl.map (fun w => (w.i, fun s' => stillV (H := FunS ABlk) s' w))).filter fun w => !pre.testBit w.1 := by
  rw [List.filter_map]; rfl
theorem WD_sound {Q : Fr → Mm → Prop} : ∀ (l : List DOper) (i : Nat) (fr : Fr) (s : Mm) (hist : List Mm) (acts : List Nat) (flt : List (Nat × Nat × ABlk)) (nid : Nat) (wl : List (Watch Fr)),
    WD X l i fr s hist acts flt nid (wl.map fun w => (w.i, fun s' => stillV s' w)) Q → ∃ n d', evD (X.cf n) l i { fr, s, hist, acts, flt, nid, watch := wl } = some d' ∧ Q d'.fr { d'.s with h := joinAll d'.flt d'.s.h } := by
  intro l
  induction l with
  | nil => intro i fr s hist acts flt nid wl h; exact ⟨0, _, rfl, h⟩
  | cons o l ih =>
    intro i fr s hist acts flt nid wl h
    simp only [WD] at h
    split at h
    · rename_i hw
      split at h
      · rename_i hk
        obtain ⟨v, h1, h2⟩ := h
        obtain ⟨n, d', h3, h4⟩ := ih _ _ _ _ _ _ _ wl h2
        exact ⟨n, d', by simp only [evD, stepD, hk, hw, if_true, h1]; exact h3, h4⟩
      · rename_i hk
        obtain ⟨v, h1, hp, h2⟩ := h
        obtain ⟨n, d', h3, h4⟩ := ih _ _ _ _ _ _ _ (⟨i, fr, o.o.op, v⟩ :: wl) h2
        exact ⟨n, d', by simp only [evD, stepD, hk, hw, if_true, h1, hp]; exact h3, h4⟩
      · rename_i hk
        obtain ⟨v, b, h1, h2⟩ := h
        obtain ⟨n, d', h3, h4⟩ := ih _ _ _ _ _ _ _ wl h2
        exact ⟨n, d', by simp only [evD, stepD, hk, hw, if_true, h1]; exact h3, h4⟩
      · rename_i hk
        obtain ⟨hp, v, s', h1, ha, h2⟩ := h
        rw [← filter_watch] at h2
        rw [← all_watch] at ha
        obtain ⟨m, hm⟩ := actP_run h1
        obtain ⟨n, d', h3, h4⟩ := ih _ _ _ _ _ _ _ _ h2
        refine ⟨max n m, d', ?_, h4⟩
        simp only [evD, stepD, hk, hp, hw, if_true, actV_mono (X.cf_mono m (max n m) (Nat.le_max_right _ _)) hm, ha]
        exact evD_mono (X.cf_mono n (max n m) (Nat.le_max_left _ _)) l h3
    · rename_i hw
      split at h
      · rename_i hk
        obtain ⟨n, d', h3, h4⟩ := ih _ _ _ _ _ _ _ wl h
        exact ⟨n, d', by simp only [evD, stepD, hk, if_neg hw]; exact h3, h4⟩
      · rename_i hk
        obtain ⟨n, d', h3, h4⟩ := ih _ _ _ _ _ _ _ wl h
        exact ⟨n, d', by simp only [evD, stepD, hk, if_neg hw]; exact h3, h4⟩
      · rename_i hk
        obtain ⟨n, d', h3, h4⟩ := ih _ _ _ _ _ _ _ wl h
        exact ⟨n, d', by simp only [evD, stepD, hk, if_neg hw]; exact h3, h4⟩
      · rename_i hk
        obtain ⟨hp, ha, h2⟩ := h
        rw [← filter_watch] at h2
        rw [← all_watch] at ha
        obtain ⟨n, d', h3, h4⟩ := ih _ _ _ _ _ _ _ _ h2
        exact ⟨n, d', by simp only [evD, stepD, hk, hp, if_neg hw, if_true, ha]; exact h3, h4⟩
theorem W_draw (L : List Nat) {l : List DOper} {fr : Fr} {s : Mm} {Q : AExit → Fr → Mm → Prop} (c : Nat) (hc : countNew l = c) (h : WD X l 0 fr { s with nxt := s.nxt + c } [] [] [] s.nxt [] (KeepK L (Q .normal))) : W X (.draw l) fr s Q := by
  subst hc
  obtain ⟨n, d', h1, h2⟩ := WD_sound l 0 fr _ [] [] [] s.nxt [] h
  exact ⟨n, .normal, d'.fr, _, by simp only [evC, evDraw, h1], h2.of⟩
theorem qbb (L : List Nat) {l : List DOper} {fr : Fr} {s : Mm} {Q : AExit → Fr → Mm → Prop} (hc : countNew l = 0) (h : WD X l 0 fr s [] [] [] s.nxt [] (KeepK L (Q .normal))) : W X (.draw l) fr s Q := W_draw L 0 hc h
section draw
variable {d : Option Tmp} {l : List DOper} {fr : Fr} {s : Mm} {Q : Fr → Mm → Prop} {i pre nid : Nat} {hist : List Mm} {acts : List Nat} {flt : List (Nat × Nat × ABlk)} {ws : List (Nat × (Mm → Bool))}
def DPureK (X : Ctx) (o : Option Value) (d : Option Tmp) (l : List DOper) (i : Nat) (fr : Fr) (s : Mm) (hist : List Mm) (acts : List Nat) (flt : List (Nat × Nat × ABlk)) (nid : Nat) (ws : List (Nat × (Mm → Bool))) (Q : Fr → Mm → Prop) : Prop :=
  ∃ v, o = some v ∧ WD X l (i + 1) (puT fr d v) s hist acts flt nid ws Q
theorem qam {v : Value} : DPureK X (some v) d l i fr s hist acts flt nid ws Q = WD X l (i + 1) (puT fr d v) s hist acts flt nid ws Q := by
  apply propext
  constructor
  · rintro ⟨v', h, g⟩; cases h; exact g
  · intro h; exact ⟨v, rfl, h⟩
def sameO (o : Option Value) (v : Value) : Bool := match o with
  | some v' => sameV v' v
  | none => false
def pastR (r : Mm → Option Value) (v : Value) (pre : Nat) : List Nat → List Mm → Bool
  | a :: as, s :: ss => if pre.testBit a then true else sameO (r s) v && pastR r v pre as ss
  | _, _ => true
def DReadK (X : Ctx) (r : Mm → Option Value) (o : Option Value) (d : Option Tmp) (pre : Nat) (l : List DOper) (i : Nat) (fr : Fr) (s : Mm) (hist : List Mm) (acts : List Nat) (flt : List (Nat × Nat × ABlk)) (nid : Nat) (ws : List (Nat × (Mm → Bool))) (Q : Fr → Mm → Prop) : Prop :=
  ∃ v, o = some v ∧ pastR r v pre acts hist = true ∧ WD X l (i + 1) (puT fr d v) s hist acts flt nid ((i, fun s' => sameO (r s') v) :: ws) Q
theorem qas {r : Mm → Option Value} {v : Value} : DReadK X r (some v) d pre l i fr s hist acts flt nid ws Q = (pastR r v pre acts hist = true ∧ WD X l (i + 1) (puT fr d v) s hist acts flt nid ((i, fun s' => sameO (r s') v) :: ws) Q) := by
  apply propext
  constructor
  · rintro ⟨v', h, g⟩; cases h; exact g
  · intro h; exact ⟨v, rfl, h⟩
theorem qaw {r : Mm → Option Value} {v : Value} : pastR r v pre [] [] = true := rfl
theorem pastR_cons {r : Mm → Option Value} {v : Value} {a : Nat} {as : List Nat} {ss : List Mm} : pastR r v pre (a :: as) (s :: ss) = if pre.testBit a then true else sameO (r s) v && pastR r v pre as ss := rfl
def DActK (X : Ctx) (o : Option (Value × Mm)) (d : Option Tmp) (pre : Nat) (l : List DOper) (i : Nat) (fr : Fr) (s : Mm) (hist : List Mm) (acts : List Nat) (flt : List (Nat × Nat × ABlk)) (nid : Nat) (ws : List (Nat × (Mm → Bool))) (Q : Fr → Mm → Prop) : Prop :=
  preHead pre acts = true ∧ ∃ v s', o = some (v, s') ∧ (ws.all fun w => pre.testBit w.1 || w.2 s') = true ∧
          WD X l (i + 1) (puT fr d v) s' (s :: hist) (i :: acts) (joinF pre flt s.h).2 nid (ws.filter fun w => !pre.testBit w.1) Q
theorem qaz {v : Value} {s' : Mm} : DActK X (some (v, s')) d pre l i fr s hist acts flt nid ws Q = (preHead pre acts = true ∧ (ws.all fun w => pre.testBit w.1 || w.2 s') = true ∧
    WD X l (i + 1) (puT fr d v) s' (s :: hist) (i :: acts) (joinF pre flt s.h).2 nid (ws.filter fun w => !pre.testBit w.1) Q) := by
  apply propext
  constructor
  · rintro ⟨h0, v', s1, h, g⟩; cases h; exact ⟨h0, g⟩
  · rintro ⟨h0, h⟩; exact ⟨h0, v, s', rfl, h⟩
def DCallK (X : Ctx) (f : FuncId) (args : List Value) (s0 : Mm) (d : Option Tmp) (pre : Nat) (l : List DOper) (i : Nat) (fr : Fr) (s : Mm) (hist : List Mm) (acts : List Nat) (flt : List (Nat × Nat × ABlk)) (nid : Nat) (ws : List (Nat × (Mm → Bool))) (Q : Fr → Mm → Prop) : Prop :=
  preHead pre acts = true ∧ ∃ v s', Call X f args s0 v s' ∧ (ws.all fun w => pre.testBit w.1 || w.2 s') = true ∧
          WD X l (i + 1) (puT fr d v) s' (s :: hist) (i :: acts) (joinF pre flt s.h).2 nid (ws.filter fun w => !pre.testBit w.1) Q
theorem DCallK_of {f : FuncId} {args : List Value} {s0 : Mm} {P : Value → Mm → Prop} (h0 : preHead pre acts = true) (h : CallP X f args s0 P) (h1 : ∀ v s', P v s' → (ws.all fun w => pre.testBit w.1 || w.2 s') = true ∧
    WD X l (i + 1) (puT fr d v) s' (s :: hist) (i :: acts) (joinF pre flt s.h).2 nid (ws.filter fun w => !pre.testBit w.1) Q) : DCallK X f args s0 d pre l i fr s hist acts flt nid ws Q := by
  obtain ⟨v, s', h2, h3⟩ := h
  exact ⟨h0, v, s', h2, h1 v s' h3⟩
def DNewK (X : Ctx) (o : Option (Value × ABlk)) (d : Option Tmp) (l : List DOper) (i : Nat) (fr : Fr) (s : Mm) (hist : List Mm) (acts : List Nat) (flt : List (Nat × Nat × ABlk)) (nid : Nat) (ws : List (Nat × (Mm → Bool))) (Q : Fr → Mm → Prop) : Prop :=
  ∃ v b, o = some (v, b) ∧ WD X l (i + 1) (puT fr d v) s hist acts ((i, nid, b) :: flt) (nid + 1) ws Q
theorem DNewK_some {v : Value} {b : ABlk} : DNewK X (some (v, b)) d l i fr s hist acts flt nid ws Q = WD X l (i + 1) (puT fr d v) s hist acts ((i, nid, b) :: flt) (nid + 1) ws Q := by
  apply propext
  constructor
  · rintro ⟨v', b', h, g⟩; cases h; exact g
  · intro h; exact ⟨v, b, rfl, h⟩
theorem WD_nil : WD X [] i fr s hist acts flt nid ws Q = Q fr (setH s (joinAll flt s.h)) := rfl
theorem WD_pure {op : AOp} (h : op.kind = .pur) : WD X (⟨⟨op, d, none⟩, pre⟩ :: l) i fr s hist acts flt nid ws Q = DPureK X (pureV fr op) d l i fr s hist acts flt nid ws Q := by
  simp only [WD, wantV, if_true, h]; rfl
theorem pv_pick {c a b : Operand} : pureV fr (.pick c a b) = pickV (evO fr c) (evO fr a) (evO fr b) := by
  simp only [pureV]; split <;> rename_i h
  · rw [h]; rfl
  · unfold pickV; split <;> first | rfl | (rename_i h'; exact absurd h' (h _))
theorem qba {x : Operand} : WD X (⟨⟨.move x, d, none⟩, pre⟩ :: l) i fr s hist acts flt nid ws Q = DPureK X (some (evO fr x)) d l i fr s hist acts flt nid ws Q := WD_pure rfl
theorem WD_pick {c a b : Operand} : WD X (⟨⟨.pick c a b, d, none⟩, pre⟩ :: l) i fr s hist acts flt nid ws Q = DPureK X (pickV (evO fr c) (evO fr a) (evO fr b)) d l i fr s hist acts flt nid ws Q := by rw [WD_pure rfl, pv_pick]
theorem WD_bin {op : BinOp} {x y : Operand} : WD X (⟨⟨.bin op x y, d, none⟩, pre⟩ :: l) i fr s hist acts flt nid ws Q = DPureK X (binV op (evO fr x) (evO fr y)) d l i fr s hist acts flt nid ws Q := WD_pure rfl
theorem WD_un {op : UnOp} {x : Operand} : WD X (⟨⟨.un op x, d, none⟩, pre⟩ :: l) i fr s hist acts flt nid ws Q = DPureK X (unV op (evO fr x)) d l i fr s hist acts flt nid ws Q := WD_pure rfl
theorem WD_nilCheck {x : Operand} : WD X (⟨⟨.nilCheck x, d, none⟩, pre⟩ :: l) i fr s hist acts flt nid ws Q = DPureK X (nilCheckV (evO fr x)) d l i fr s hist acts flt nid ws Q := WD_pure rfl
theorem WD_fieldAddr {off : Nat} {x : Operand} : WD X (⟨⟨.fieldAddr off x, d, none⟩, pre⟩ :: l) i fr s hist acts flt nid ws Q = DPureK X (fieldAddrV off (evO fr x)) d l i fr s hist acts flt nid ws Q := WD_pure rfl
theorem qay {sz : Nat} {x y : Operand} : WD X (⟨⟨.addrSl sz x y, d, none⟩, pre⟩ :: l) i fr s hist acts flt nid ws Q = DPureK X (addrSlV sz (evO fr x) (evO fr y)) d l i fr s hist acts flt nid ws Q := WD_pure rfl
theorem WD_build {z : List Value} {ps : List (Nat × Nat × Operand)} : WD X (⟨⟨.build z ps, d, none⟩, pre⟩ :: l) i fr s hist acts flt nid ws Q = DPureK X (buildV z (ps.map fun p => (p.1, p.2.1, evO fr p.2.2))) d l i fr s hist acts flt nid ws Q := WD_pure rfl
theorem WD_bu {b : ABu} {xs : List Operand} : WD X (⟨⟨.bu b xs, d, none⟩, pre⟩ :: l) i fr s hist acts flt nid ws Q = DPureK X (buV b (xs.map (evO fr))) d l i fr s hist acts flt nid ws Q := WD_pure rfl
theorem pastOk_load {n : Option Nat} {a : Operand} {v : Value} : ∀ (acts : List Nat) (hist : List Mm), pastOk fr (.load n a) v pre acts hist = pastR (fun s => loadV s n (evO fr a)) v pre acts hist := by
  intro acts
  induction acts with
  | nil => intro hist; cases hist <;> rfl
  | cons a acts ih =>
    intro hist
    cases hist with
    | nil => rfl
    | cons s hist => simp only [pastOk, pastR, ih]; rfl
theorem WD_load {n : Option Nat} {a : Operand} : WD X (⟨⟨.load n a, d, none⟩, pre⟩ :: l) i fr s hist acts flt nid ws Q = DReadK X (fun s => loadV s n (evO fr a)) (loadV s n (evO fr a)) d pre l i fr s hist acts flt nid ws Q := by
  have : WD X (⟨⟨.load n a, d, none⟩, pre⟩ :: l) i fr s hist acts flt nid ws Q = ∃ v, loadV s n (evO fr a) = some v ∧ pastOk fr (.load n a) v pre acts hist = true ∧ WD X l (i + 1) (puT fr d v) s hist acts flt nid ((i, fun s' => stillV s' ⟨i, fr, .load n a, v⟩) :: ws) Q := rfl
  rw [this]
  unfold DReadK
  simp only [pastOk_load]
  rfl
def buildSlD (nid sz : Nat) (zero : List Value) (len : Nat) (ps : List (Nat × Nat × Value)) : Option (Value × ABlk) :=
  (fillL (repZ zero len) ps).map fun cs => (.slice (some ⟨nid, 0, none⟩) len len, .cells cs false)
def makeSlD (nid : Nat) (bytes : Nat) (zero : List Value) (l c : Value) : Option (Value × ABlk) := match l, c with
  | .int _ l, .int _ c =>
    if 0 ≤ l ∧ l ≤ c ∧ c < 4611686018427387904 ∧ bytes * c.toNat ≤ 281474976710656 then
      some (.slice (some ⟨nid, 0, none⟩) l.toNat c.toNat, .cells (repZ zero c.toNat) false)
    else none
  | _, _ => none
theorem WD_buildSlice {e : TypeId} {sz : Nat} {z : List Value} {len : Nat} {ps : List (Nat × Operand)} : WD X (⟨⟨.buildSlice e sz z len ps, d, none⟩, pre⟩ :: l) i fr s hist acts flt nid ws Q = DNewK X (buildSlD nid sz z len (ps.map fun p => (p.1 * sz, sz, evO fr p.2))) d l i fr s hist acts flt nid ws Q := rfl
theorem WD_store {n : Nat} {a x : Operand} : WD X (⟨⟨.store n a x, d, none⟩, pre⟩ :: l) i fr s hist acts flt nid ws Q = DActK X (storeV (setH s (joinF pre flt s.h).1) n (evO fr a) (evO fr x)) d pre l i fr s hist acts flt nid ws Q := rfl
theorem WD_append {e : TypeId} {bytes sz : Nat} {z : List Value} {a x : Operand} : WD X (⟨⟨.append e bytes sz z a x, d, none⟩, pre⟩ :: l) i fr s hist acts flt nid ws Q = DActK X (appendV (setH s (joinF pre flt s.h).1) bytes sz (evO fr a) (evO fr x)) d pre l i fr s hist acts flt nid ws Q := rfl
def extS (s : Mm) (e : Nat) (xs : List Value) : Option (Value × Mm) := (extV e xs).map fun v => (v, s)
theorem WD_call {f : FuncId} {xs : List Operand} : WD X (⟨⟨.call (.func f) xs, d, none⟩, pre⟩ :: l) i fr s hist acts flt nid ws Q = DCallK X f (xs.map (evO fr)) (setH s (joinF pre flt s.h).1) d pre l i fr s hist acts flt nid ws Q := rfl
def DFunK (X : Ctx) (f : Value) (args : List Value) (s0 : Mm) (d : Option Tmp) (pre : Nat) (l : List DOper) (i : Nat) (fr : Fr) (s : Mm) (hist : List Mm) (acts : List Nat) (flt : List (Nat × Nat × ABlk)) (nid : Nat) (ws : List (Nat × (Mm → Bool))) (Q : Fr → Mm → Prop) : Prop := match f with
  | .func (.func g) a b => DCallK X g (a.toList ++ args ++ b.toList) s0 d pre l i fr s hist acts flt nid ws Q
  | _ => False
theorem DFunK_0 {g : FuncId} {args : List Value} {s0 : Mm} : DFunK X (.func (.func g) #[] #[]) args s0 d pre l i fr s hist acts flt nid ws Q = DCallK X g args s0 d pre l i fr s hist acts flt nid ws Q := by
  show DCallK X g (([] : List Value) ++ args ++ ([] : List Value)) s0 d pre l i fr s hist acts flt nid ws Q = _
  rw [List.nil_append, List.append_nil]
theorem WD_callT {t : Tmp} {xs : List Operand} : WD X (⟨⟨.call (.tmp t) xs, d, none⟩, pre⟩ :: l) i fr s hist acts flt nid ws Q = DFunK X (geT fr t) (xs.map (evO fr)) (setH s (joinF pre flt s.h).1) d pre l i fr s hist acts flt nid ws Q := by
  show (preHead pre acts = true ∧ ∃ v s', (match geT fr t with
      | .func (.func g) a b => Call X g (a.toList ++ xs.map (evO fr) ++ b.toList) (setH s (joinF pre flt s.h).1) v s'
      | _ => False) ∧ _) = _
  apply propext
  unfold DFunK
  split
  · exact ⟨fun h => h, fun h => h⟩
  · exact ⟨fun ⟨_, _, _, h, _⟩ => h.elim, fun h => h.elim⟩
theorem WD_yes {op : AOp} {t : Tmp} {b : Bool} (h : wantV fr (some (t, b)) = true) : WD X (⟨⟨op, d, some (t, b)⟩, pre⟩ :: l) i fr s hist acts flt nid ws Q = WD X (⟨⟨op, d, none⟩, pre⟩ :: l) i fr s hist acts flt nid ws Q := by
  have h2 : wantV fr none = true := rfl
  simp only [WD, h, h2, if_true]
theorem WD_no {op : AOp} {t : Tmp} {b : Bool} (hk : op.kind = .pur ∨ op.kind = .rd) (h : wantV fr (some (t, b)) = false) : WD X (⟨⟨op, d, some (t, b)⟩, pre⟩ :: l) i fr s hist acts flt nid ws Q = WD X l (i + 1) (puT fr d undefV) s hist acts flt nid ws Q := by
  rcases hk with hk | hk <;> simp only [WD, h, Bool.false_eq_true, if_false, hk]
def DSkipK (X : Ctx) (d : Option Tmp) (pre : Nat) (l : List DOper) (i : Nat) (fr : Fr) (s : Mm) (hist : List Mm) (acts : List Nat) (flt : List (Nat × Nat × ABlk)) (nid : Nat) (ws : List (Nat × (Mm → Bool))) (Q : Fr → Mm → Prop) : Prop :=
  DActK X (some (undefV, (setH s (joinF pre flt s.h).1))) d pre l i fr s hist acts flt nid ws Q
theorem WD_noAct {op : AOp} {t : Tmp} {b : Bool} (hk : op.kind = .act) (h : wantV fr (some (t, b)) = false) : WD X (⟨⟨op, d, some (t, b)⟩, pre⟩ :: l) i fr s hist acts flt nid ws Q =
    DActK X (some (undefV, (setH s (joinF pre flt s.h).1))) d pre l i fr s hist acts flt nid ws Q := by
  rw [qaz]
  simp only [WD, h, Bool.false_eq_true, if_false, hk]
  rfl
theorem qav {p : Nat} : preHead p [] = true := rfl
theorem preHead_cons {p a : Nat} {as : List Nat} : preHead p (a :: as) = p.testBit a := rfl
theorem qar {h : FunS ABlk} : joinF pre [] h = (h, []) := rfl
theorem joinF_cons {h : FunS ABlk} {id : Nat} {b : ABlk} {fl : List (Nat × Nat × ABlk)} : joinF pre ((i, id, b) :: fl) h = if pre.testBit i then (Store.put (joinF pre fl h).1 id (some b), (joinF pre fl h).2) else ((joinF pre fl h).1, (i, id, b) :: (joinF pre fl h).2) := rfl
theorem qaq {h : FunS ABlk} : joinAll [] h = h := rfl
theorem qap : setH s s.h = s := rfl
end draw
theorem W_if {t : Tmp} {p : Prop} [Decidable p] {a b : ACode} {fr : Fr} {s : Mm} {Q : AExit → Fr → Mm → Prop} (hc : geT fr t = .bool (decide p)) (ht : p → W X a fr s Q) (he : ¬ p → W X b fr s Q) : W X (.cond (.tmp t) a b) fr s Q :=
  W_cond hc (fun h => ht (of_decide_eq_true h)) (fun h => he (of_decide_eq_false h))
theorem W_ifn {t : Tmp} {p : Prop} [Decidable p] {a b : ACode} {fr : Fr} {s : Mm} {Q : AExit → Fr → Mm → Prop} (hc : geT fr t = .bool (!decide p)) (ht : ¬ p → W X a fr s Q) (he : p → W X b fr s Q) : W X (.cond (.tmp t) a b) fr s Q :=
  W_cond hc (fun h => ht (by simpa using h)) (fun h => he (by simpa using h))
theorem W_while {t : Tmp} {p : Prop} [Decidable p] {id : Nat} {b : ACode} {fr : Fr} {s : Mm} {Q : AExit → Fr → Mm → Prop} (hc : geT fr t = .bool (decide p)) (ht : p → W X b fr s Q) (he : ¬ p → Q (.exit id) fr s) :
    W X (.seq (.cond (.tmp t) .skip (.exit id)) b) fr s Q :=
  qak (W_if hc (fun h => W_skip (ht h)) (fun h => W_exit (he h)))
theorem W_opsB (L : List Nat) (R : Fr → Mm → Prop) {l : List AOper} {fr : Fr} {s : Mm} {Q : AExit → Fr → Mm → Prop} (h : ∀ R' : Fr → Mm → Prop, (∀ fr' s', R fr' s' → R' fr' s') → WO X l fr s (KeepK L R')) (g : ∀ fr' s', R fr' s' → Q .normal fr' s') : W X (.ops l) fr s Q :=
  let ⟨n, f, s1, h1, h2⟩ := h R fun _ _ h => h
  ⟨n, _, f, s1, by simp only [evC, h1], g _ _ h2.of⟩
theorem W_cutN (R : Fr → Mm → Prop) {c : ACode} {fr : Fr} {s : Mm} {Q : AExit → Fr → Mm → Prop} (h : ∀ R' : AExit → Fr → Mm → Prop, (∀ fr' s', R fr' s' → R' .normal fr' s') → W X c fr s R') (g : ∀ fr' s', R fr' s' → Q .normal fr' s') : W X c fr s Q := by
  have := h (fun e fr s => e = .normal ∧ R fr s) (fun _ _ h => ⟨rfl, h⟩)
  refine this.mono ?_
  rintro _ fr' s' ⟨rfl, h⟩
  exact g _ _ h
theorem qau {a b c : ACode} {fr : Fr} {s : Mm} {Q : AExit → Fr → Mm → Prop} (h : W X (.seq a (.seq b c)) fr s Q) : W X (.seq (.seq a b) c) fr s Q := by
  obtain ⟨n, e, f, s', h1, h2⟩ := h
  refine ⟨n, e, f, s', ?_, h2⟩
  simp only [evC] at h1 ⊢
  cases ha : evC (X.cf n) n a fr s with
  | none => rw [ha] at h1; cases h1
  | some r =>
    obtain ⟨e1, f1, s1⟩ := r
    rw [ha] at h1
    cases e1 with
    | normal =>
      simp only at h1 ⊢
      exact h1
    | exit id => simp only at h1 ⊢; exact h1
    | ret => simp only at h1 ⊢; exact h1
end Go.Vam

/- Slices that may grow. -/
namespace Go.Vam
open Go
variable {s : Mm}
inductive Own (s : Mm) (sz : Nat) : Value → Nat → List Value → Prop
  | nil : Own s sz (.slice none 0 0) 0 []
  | opn {B n : Nat} {cs : List Value} (h : Store.get s.h B = some (.cells cs true)) (hB : B < s.nxt) (hl : cs.length = n * sz) (hz : sz < OPEN) : Own s sz (.slice (some ⟨B, 0, none⟩) n (OPEN + sz)) n cs
  | cap {B n c : Nat} {cs rest : List Value} (h : Store.get s.h B = some (.cells (cs ++ rest) false)) (hB : B < s.nxt) (hl : cs.length = n * sz) (hr : rest.length = (c - n) * sz) (hn : n ≤ c) (hc : c < OPEN) :
      Own s sz (.slice (some ⟨B, 0, none⟩) n c) n cs
theorem Own.length {sz n : Nat} {v : Value} {cs : List Value} (h : Own s sz v n cs) : cs.length = n * sz := by
  cases h with
  | nil => simp
  | opn h hB hl hz => exact hl
  | cap h hB hl => exact hl
theorem Own.slc {sz n : Nat} {v : Value} {cs : List Value} (h : Own s sz v n cs) : SlC s sz v n cs := by
  cases h with
  | nil => exact .nil
  | opn h hB hl hz => exact .mk (blk_cells h) hB (by rw [List.drop_zero, ← hl, List.take_length]) (by omega) (.inr ⟨hz, n, Nat.le_refl _, halfC_self.symm⟩)
  | cap h hB hl hr hn hc =>
    refine .mk (blk_cells h) hB ?_ (by simp; omega) (.inl ⟨hn, hc⟩)
    rw [List.drop_zero, ← hl, List.take_left]
theorem Own.same {s s' : Mm} {F : Nat → Prop} {sz n : Nat} {v : Value} {cs : List Value} (h : Own s sz v n cs) (g : Same s s' F) (hF : ∀ b, footV v b → ¬ F b) : Own s' sz v n cs := by
  cases h with
  | nil => exact .nil
  | opn h hB hl hz => exact .opn (by rw [g.get _ hB (hF _ rfl)]; exact h) (Nat.lt_of_lt_of_le hB g.nxt) hl hz
  | cap h hB hl hr hn hc => exact .cap (by rw [g.get _ hB (hF _ rfl)]; exact h) (Nat.lt_of_lt_of_le hB g.nxt) hl hr hn hc
theorem SlC.cells {sz n : Nat} {v : Value} {cs : List Value} (h : SlC s sz v n cs) : cellsOfSl s sz v = some cs := by
  cases h with
  | nil => rfl
  | @mk B o n cap all cs hb hB hc ho hcap =>
    subst hc
    simp only [cellsOfSl, cellsAt]
    unfold blk at hb
    split at hb
    · rename_i h; cases hb; simp only [h, Option.isSome_none, Bool.false_eq_true, if_false, if_pos ho]
    · rename_i h; cases hb; simp only [h, Option.isSome_none, Bool.false_eq_true, if_false, if_pos ho]
    · cases hb
theorem SlC.src {sz n : Nat} {v : Value} {cs : List Value} (h : SlC s sz v n cs) : srcCells s sz v = some (n, cs) := by
  have hc := h.cells
  cases h with
  | nil => rfl
  | mk hb hB hc' ho hcap =>
    simp only [cellsOfSl] at hc
    simp only [srcCells, hc, Option.map_some]
theorem putL_app : ∀ (a vs rest : List Value), vs.length ≤ rest.length → putL (a ++ rest) a.length vs = a ++ vs ++ rest.drop vs.length := by
  intro a
  induction a with
  | nil =>
    intro vs
    induction vs with
    | nil => intro rest _; cases rest <;> simp [putL]
    | cons v vs ih =>
      intro rest h
      cases rest with
      | nil => simp at h
      | cons r rest =>
        have := ih rest (by simpa using h)
        simp only [List.nil_append, List.length_nil] at this ⊢
        simp only [putL, this, List.cons_append, List.length_cons, List.drop_succ_cons]
  | cons x a ih =>
    intro vs rest h
    have := ih vs rest h
    cases vs with
    | nil => simp [putL]
    | cons v vs => simp only [List.cons_append, List.length_cons, putL]; rw [this]; simp
theorem Own.append {sz n m bytes : Nat} {v xv : Value} {cs new : List Value} (h : Own s sz v n cs) (hx : srcCells s sz xv = some (m, new)) (hnew : new.length = m * sz) (hone : new.all oneCell = true)
    (hsz : 0 < sz) (hszO : sz < OPEN) (hb : 0 < bytes) (hb2 : bytes ≤ 1048576) (hsize : (n + m) * bytes ≤ 140737488355328) :
    ∃ v' s', appendV s bytes sz v xv = some (v', s') ∧ Own s' sz v' (n + m) (cs ++ new) ∧ Same s s' (footV v) ∧ (∀ b, footV v' b → footV v b ∨ s.nxt ≤ b) := by
  have hcells := h.slc.cells
  by_cases hm : m = 0
  · have hn0 : new = [] := by subst hm; simpa using hnew
    subst hm hn0
    refine ⟨v, s, ?_, by simpa using h, .refl _ _, fun b hb => .inl hb⟩
    cases h with
    | nil => simp only [appendV, hx, if_true]; simp
    | opn h hB hl hz => simp only [appendV, hx, if_true]; rw [if_pos (.inl (by omega))]
    | cap h hB hl hr hn hc => simp only [appendV, hx, if_true]; rw [if_pos (.inr hn)]
  · cases h with
    | nil =>
      simp only [cellsOfSl, Option.some.injEq] at hcells
      have hO : (0 : Nat) < OPEN := by unfold OPEN; omega
      refine ⟨.slice (some ⟨s.nxt, 0, none⟩) (0 + m) (OPEN + sz), newAt s (.cells ([] ++ new) true), ?_, ?_, .new, fun b hb => .inr (by simp only [footV] at hb; omega)⟩
      · simp only [appendV, hx, if_neg hm]
        rw [if_neg (by omega), if_pos ⟨hsz, hszO, hb, hb2, hsize, hone⟩]
        simp only [cellsOfSl, if_pos hO]
      · exact .opn (by rw [get_new, if_pos rfl]) (by rw [nxt_new]; omega) (by simpa using hnew) hszO
    | @opn B n cs h hB hl hz =>
      have hO : ¬ (OPEN + sz < OPEN) := by omega
      refine ⟨.slice (some ⟨s.nxt, 0, none⟩) (n + m) (OPEN + sz), { h := Store.put (Store.put s.h B none) s.nxt (some (.cells (cs ++ new) true)), nxt := s.nxt + 1 }, ?_, ?_, ⟨Nat.le_succ _, fun b hb hF => ?_⟩, fun b hb => .inr (by simp only [footV] at hb; omega)⟩
      · simp only [appendV, hx, if_neg hm]
        rw [if_neg (by omega), if_pos ⟨hsz, hszO, hb, hb2, hsize, hone⟩]
        simp only [hcells, if_neg hO, if_true, h, Nat.zero_add, hl]
      · exact .opn (by rw [Store.get_put, if_pos rfl]) (Nat.lt_succ_self _) (by simp only [List.length_append, hl, hnew, Nat.add_mul]) hszO
      · rw [Store.get_put, if_neg (by omega), Store.get_put, if_neg (fun e : b = B => hF e)]
    | @cap B n c cs rest h hB hl hr hn hc =>
      by_cases hfit : n + m ≤ c
      · have hrest : new.length ≤ rest.length := by
          rw [hnew, hr]; exact Nat.mul_le_mul_right _ (by omega)
        refine ⟨.slice (some ⟨B, 0, none⟩) (n + m) c, setBlk s B (.cells (cs ++ new ++ rest.drop new.length) false), ?_, ?_, .set rfl, fun b hb => .inl hb⟩
        · simp only [appendV, hx, if_neg hm]
          rw [if_pos ⟨hc, hfit⟩]
          simp only [add_none', Nat.zero_add, putCells, h, Option.isSome_none, Bool.false_eq_true, if_false]
          rw [if_pos (by simp only [List.length_append, hl, hnew, hr]; rw [← Nat.add_mul, ← Nat.add_mul]; exact Nat.mul_le_mul_right _ (by omega)), if_pos hone]
          simp only [Option.map_some, ← hl, putL_app _ _ _ hrest]
          rfl
        · refine .cap (rest := rest.drop new.length) (by rw [get_set, if_pos rfl]) hB (by simp only [List.length_append, hl, hnew, Nat.add_mul]) ?_ hfit hc
          rw [List.length_drop, hr, hnew, ← Nat.sub_mul]; congr 1; omega
      · refine ⟨.slice (some ⟨s.nxt, 0, none⟩) (n + m) (OPEN + sz), newAt s (.cells (cs ++ new) true), ?_, ?_, .new, fun b hb => .inr (by simp only [footV] at hb; omega)⟩
        · simp only [appendV, hx, if_neg hm]
          rw [if_neg (by omega), if_pos ⟨hsz, hszO, hb, hb2, hsize, hone⟩]
          simp only [hcells, if_pos hc]
        · exact .opn (by rw [get_new, if_pos rfl]) (by rw [nxt_new]; omega) (by simp only [List.length_append, hl, hnew, Nat.add_mul]) hszO
theorem own_make {sz c n : Nat} {z : List Value} (hz : z.length = sz) (hn : n ≤ c) (hc : c < OPEN) :
    Own (newAt s (.cells (repZ z c) false)) sz (.slice (some ⟨s.nxt, 0, none⟩) n c) n (repZ z n) := by
  have hsplit : ∀ n c : Nat, n ≤ c → repZ z c = repZ z n ++ repZ z (c - n) := by
    intro n
    induction n with
    | zero => intro c _; simp [repZ]
    | succ n ih =>
      intro c h
      obtain ⟨c, rfl⟩ : ∃ d, c = d + 1 := ⟨c - 1, by omega⟩
      simp only [repZ, List.append_assoc]
      have e : c + 1 - (n + 1) = c - n := by omega
      rw [e, ← ih c (by omega)]
  exact .cap (rest := repZ z (c - n)) (by rw [get_new, if_pos rfl, hsplit n c hn]) (by rw [nxt_new]; omega) (by rw [repZ_length, hz]) (by rw [repZ_length, hz]) hn hc
section ret
variable {fr : Fr} {P : Value → Mm → Prop}
theorem Ret0 (g : P (.tuple #[]) s) : RetK [] P .ret fr s := RetK_r rfl g
theorem Ret0n (g : P (.tuple #[]) s) : RetK [] P .normal fr s := RetK_n rfl g
theorem Ret1 {t : Tmp} {v : Value} (h : geT fr t = v) (g : P v s) : RetK [.tmp t] P .ret fr s := by subst h; exact RetK_r rfl g
theorem Ret2 {t u : Tmp} {v v' : Value} (h : geT fr t = v) (h' : geT fr u = v') (g : P (.tuple #[v, v']) s) : RetK [.tmp t, .tmp u] P .ret fr s := by subst h; subst h'; exact RetK_r rfl g
end ret
end Go.Vam

/- Blocks that are known whole; bytes and strings. -/
namespace Go.Vam
open Go
variable {s : Mm}
theorem load_g {B o : Nat} {cs : List Value} {p : Bool} (hg : Store.get s.h B = some (.cells cs p)) : loadV s none (.pointer (some ⟨B, o, none⟩)) = cs[o]? := by
  rw [load_1, blk_cells hg]; rfl
theorem loadn_g {B o n : Nat} {cs : List Value} {p : Bool} (hg : Store.get s.h B = some (.cells cs p)) : loadV s (some n) (.pointer (some ⟨B, o, none⟩)) = if o + n ≤ cs.length then some (.agg ((cs.drop o).take n).toArray) else none := by
  rw [load_n, blk_cells hg]; rfl
theorem putL_one : ∀ (cs : List Value) (o : Nat) (x : Value), putL cs o [x] = cs.set o x := by
  intro cs
  induction cs with
  | nil => intro o x; rfl
  | cons c cs ih =>
    intro o x
    cases o with
    | zero => cases cs <;> rfl
    | succ o => simp only [putL, List.set_cons_succ, ih]
theorem cells_one {x : Value} (h : oneCell x = true) : x.cells = #[x] := by
  cases x <;> first | rfl | cases h
theorem store_g {B o : Nat} {cs : List Value} {p : Bool} {x : Value} (hg : Store.get s.h B = some (.cells cs p)) (hx : oneCell x = true) (ho : o < cs.length) :
    storeV s 1 (.pointer (some ⟨B, o, none⟩)) x = some (undefV, setBlk s B (.cells (cs.set o x) p)) := by
  have hx' : x.cells.toList = [x] := by rw [cells_one hx]
  simp only [storeV, hx', putCells, hg]
  rw [if_pos (by rw [cells_one hx]; rfl), if_neg (by simp), if_pos (by simp; omega), if_pos (by simp [hx]), Option.map_some, putL_one]
  rfl
theorem putL_all : ∀ (cs vs : List Value), vs.length = cs.length → putL cs 0 vs = vs := by
  intro cs
  induction cs with
  | nil => intro vs h; cases vs with
    | nil => rfl
    | cons v vs => simp at h
  | cons c cs ih =>
    intro vs h
    cases vs with
    | nil => simp at h
    | cons v vs => simp only [putL, ih vs (by simpa using h)]
theorem store_all {B n : Nat} {cs vs : List Value} {p : Bool} (hg : Store.get s.h B = some (.cells cs p)) (hv : vs.length = n) (hn : cs.length = n) (h1 : vs.all oneCell = true) :
    storeV s n (.pointer (some ⟨B, 0, none⟩)) (.agg vs.toArray) = some (undefV, setBlk s B (.cells vs p)) := by
  have hc : (Value.agg vs.toArray).cells = vs.toArray := rfl
  simp only [storeV, hc, putCells, hg]
  rw [if_pos (by simpa using hv), if_neg (by simp), if_pos (by simp [hv, hn]), if_pos h1, Option.map_some]
  rw [putL_all cs vs (by omega)]
  rfl
theorem SlC.one {sz n : Nat} {v : Value} {cs : List Value} (h : SlC s sz v n cs) : oneCell v = true := by cases h <;> rfl
theorem Own.one {sz n : Nat} {v : Value} {cs : List Value} (h : Own s sz v n cs) : oneCell v = true := by cases h <;> rfl
theorem loadn_all {B n : Nat} {cs : List Value} {p : Bool} (hg : Store.get s.h B = some (.cells cs p)) (hn : cs.length = n) : loadV s (some n) (.pointer (some ⟨B, 0, none⟩)) = some (.agg cs.toArray) := by
  rw [loadn_g hg, if_pos (by omega), List.drop_zero, ← hn, List.take_length]
theorem sameO_int {k : IntKind} {n : Int} : sameO (some (.int k n)) (.int k n) = true := by simp [sameO, sameV, beqV]
theorem sameO_sl {a : Option Addr} {n c : Nat} : sameO (some (.slice a n c)) (.slice a n c) = true := by simp [sameO, sameV, beqV]
theorem SlC.sameO {sz n : Nat} {v : Value} {cs : List Value} (h : SlC s sz v n cs) : Vam.sameO (some v) v = true := by cases h <;> exact sameO_sl
theorem makeSl_eq {bytes l c : Nat} {z : List Value} {k k' : IntKind} {i j : Int} (hi : i = l) (hj : j = c) (hlc : l ≤ c) (hc : c < 4611686018427387904) (hb : bytes * c ≤ 281474976710656) :
    makeSlV s bytes z (.int k i) (.int k' j) = some (.slice (some ⟨s.nxt, 0, none⟩) l c, .cells (repZ z c) false) := by
  subst hi; subst hj
  simp only [makeSlV]
  rw [if_pos ⟨by omega, by omega, by omega, by simpa using hb⟩]
  simp
def byteV (b : UInt8) : Value := .int .u8 b.toNat
def bsV (l : List UInt8) : List Value := l.map byteV
theorem bytesOf_bsV : ∀ l : List UInt8, bytesOfCells (bsV l) = some l := by
  intro l
  induction l with
  | nil => rfl
  | cons b l ih =>
    have : bytesOfCells (bsV (b :: l)) = (bytesOfCells (bsV l)).map (UInt8.ofNat (b.toNat : Int).toNat :: ·) := rfl
    rw [this, ih]
    simp
theorem bsV_length (a : List UInt8) : (bsV a).length = a.length := List.length_map ..
theorem bsV_sub (b : List UInt8) (l h : Nat) : ((bsV b).drop (l * 1)).take ((h - l) * 1) = bsV ((b.drop l).take (h - l)) := by
  simp only [bsV, Nat.mul_one, List.map_take, List.map_drop]
abbrev Bs (s : Mm) (v : Value) (b : List UInt8) : Prop := SlC s 1 v b.length (bsV b)
theorem Bs.of {v : Value} {n : Nat} {b : List UInt8} (h : SlC s 1 v n (bsV b)) : Bs s v b := by
  have := h.length
  rw [bsV_length] at this
  have e : n = b.length := by omega
  subst e; exact h
def subB (b : List UInt8) (l h : Nat) : List UInt8 := (b.drop l).take (h - l)
theorem Bs.sub {v : Value} {b : List UInt8} (hb : Bs s v b) {l h : Nat} (hl : l ≤ h) (hh : h ≤ b.length) : Bs s (subS 1 v l h) (subB b l h) := by
  have := SlC.sub hb hl hh
  rw [bsV_sub] at this
  exact Bs.of this
theorem Bs.el {v : Value} {b : List UInt8} (hb : Bs s v b) {k : Nat} (hk : k < b.length) : loadV s none (elP v (k * 1)) = some (byteV b[k]) := hb.load (by simp [bsV, hk])
theorem Bs.text {v : Value} {b : List UInt8} (hb : Bs s v b) : textV s v = some (.string ⟨b.toArray⟩) := by
  have hc := hb.cells
  have hb' : SlC s 1 v b.length (bsV b) := hb
  generalize hcs : bsV b = cs at hb' hc
  generalize b.length = n at hb'
  cases hb' with
  | nil =>
    simp only [cellsOfSl] at hc
    have : b = [] := by cases b with
      | nil => rfl
      | cons x b => simp [bsV] at hcs
    subst this; rfl
  | mk h hB hc' ho hcap =>
    simp only [cellsOfSl, Nat.mul_one] at hc
    simp only [textV, hc, ← hcs, bytesOf_bsV, Option.map_some]
end Go.Vam

/- What is handed in, as lists; a law's call with what is known of memory. -/
namespace Go.Vam
open Go Go.ChangeShapes
section
variable {P : Program} {T : Type} {s : Mm}
def Lt (s : Mm) : Prop := ∀ B k, Store.get s.h B = some k → B < s.nxt
theorem Abs.sl (hs : Lt s) {t e : TypeId} {sz : Nat} (ht : P.underlying t = some (.slice e)) (hsz : P.cellsOf e = sz) (hz : sz < OPEN) {cs : List Value} {d : DataW T} (h : Abs P s t cs d) :
    ∃ (v : Value) (ls : List (List Value)) (ds : List (DataW T)), cs = [v] ∧ SlC s sz v ls.length ls.flatten ∧ ls.length ≤ maxLen ∧ ds.length = ls.length ∧
      (∀ (i : Nat) (l : List Value) (d : DataW T), ls[i]? = some l → ds[i]? = some d → l.length = sz ∧ Abs P s e l d) := by
  have hO : maxLen < OPEN := by decide
  cases h with
  | nil h => exact ⟨_, [], [], rfl, .nil, Nat.zero_le _, rfl, fun i l d hl => by simp at hl⟩
  | @slice _ e' B cap ls ds rest h hg hsz' hlen hcap hel =>
    rw [ht] at h; cases h
    have hlf : ls.flatten.length = ls.length * sz := by
      have : ∀ ls : List (List Value), (∀ l ∈ ls, l.length = P.cellsOf e) → ls.flatten.length = ls.length * sz := by
        intro ls
        induction ls with
        | nil => intro _; simp
        | cons l ls ih => intro h; simp only [List.flatten_cons, List.length_append, List.length_cons, ih (fun x hx => h x (by simp [hx])), h l (by simp), hsz, Nat.add_mul]; omega
      exact this ls hsz'
    refine ⟨_, ls, ds, rfl, .mk (blk_ro hg) (hs _ _ hg) (by rw [List.drop_zero, ← hlf, List.take_length]) (by omega) ?_, ?_, hlen, fun i l d hl hd => ⟨by rw [← hsz]; exact hsz' l (List.mem_of_getElem? hl), hel i l d hl hd⟩⟩
    · rcases hcap with ⟨h1, h2⟩ | ⟨h1, h2⟩
      · exact .inl ⟨h1, by omega⟩
      · subst h1; exact .inr ⟨hz, 0, Nat.le_refl _, by rw [h2, hsz]; exact halfC_self.symm⟩
    · rcases hcap with ⟨h1, h2⟩ | ⟨h1, h2⟩
      · omega
      · subst h1; exact Nat.zero_le _
  | bool h => rw [ht] at h; cases h
  | int h => rw [ht] at h; cases h
  | float h => rw [ht] at h; cases h
  | string h => rw [ht] at h; cases h
  | struct h => rw [ht] at h; cases h
  | array h => rw [ht] at h; cases h
theorem Abs.i {t : TypeId} {k : IntKind} (ht : P.underlying t = some (.int k)) {cs : List Value} {d : DataW T} (h : Abs P s t cs d) : ∃ n, cs = [.int k n] ∧ d = .lit (.int k n) ∧ (Lit.int k n).wf = true := by
  cases h with
  | int h hw => rw [ht] at h; cases h; exact ⟨_, rfl, rfl, hw⟩
  | nil h => rw [ht] at h; cases h
  | slice h => rw [ht] at h; cases h
  | bool h => rw [ht] at h; cases h
  | float h => rw [ht] at h; cases h
  | string h => rw [ht] at h; cases h
  | struct h => rw [ht] at h; cases h
  | array h => rw [ht] at h; cases h
theorem Abs.f {t : TypeId} {k : FloatKind} (ht : P.underlying t = some (.float k)) {cs : List Value} {d : DataW T} (h : Abs P s t cs d) : ∃ n, cs = [.float k n] ∧ d = .lit (.float k n) ∧ (Lit.float k n).wf = true := by
  cases h with
  | float h hw => rw [ht] at h; cases h; exact ⟨_, rfl, rfl, hw⟩
  | nil h => rw [ht] at h; cases h
  | slice h => rw [ht] at h; cases h
  | bool h => rw [ht] at h; cases h
  | int h => rw [ht] at h; cases h
  | string h => rw [ht] at h; cases h
  | struct h => rw [ht] at h; cases h
  | array h => rw [ht] at h; cases h
theorem Abs.b {t : TypeId} (ht : P.underlying t = some .bool) {cs : List Value} {d : DataW T} (h : Abs P s t cs d) : ∃ n, cs = [.bool n] ∧ d = .lit (.bool n) := by
  cases h with
  | bool h => exact ⟨_, rfl, rfl⟩
  | float h => rw [ht] at h; cases h
  | nil h => rw [ht] at h; cases h
  | slice h => rw [ht] at h; cases h
  | int h => rw [ht] at h; cases h
  | string h => rw [ht] at h; cases h
  | struct h => rw [ht] at h; cases h
  | array h => rw [ht] at h; cases h
theorem Abs.st {t : TypeId} {fs : Array Field} (ht : P.underlying t = some (.struct fs)) {cs : List Value} {d : DataW T} (h : Abs P s t cs d) :
    ∃ ds, d = .agg ds ∧ cs.length = P.cellsOf t ∧ ds.length = fs.toList.length ∧ ∀ (i : Nat) (f : Field) (d : DataW T), fs.toList[i]? = some f → ds[i]? = some d → Abs P s f.type ((cs.drop f.offset).take (P.cellsOf f.type)) d := by
  cases h with
  | struct h hsz hlen hel => rw [ht] at h; cases h; exact ⟨_, rfl, hsz, hlen, hel⟩
  | float h => rw [ht] at h; cases h
  | nil h => rw [ht] at h; cases h
  | slice h => rw [ht] at h; cases h
  | int h => rw [ht] at h; cases h
  | string h => rw [ht] at h; cases h
  | bool h => rw [ht] at h; cases h
  | array h => rw [ht] at h; cases h
theorem ones_of {α β : Type} {f : α → Value} {p : α → Prop} : ∀ (ls : List (List Value)) (ds : List β), ds.length = ls.length → (∀ (i : Nat) (l : List Value) (d : β), ls[i]? = some l → ds[i]? = some d → ∃ x, l = [f x] ∧ p x) → ∃ xs : List α, ls = xs.map (fun x => [f x]) ∧ ∀ x ∈ xs, p x := by
  intro ls
  induction ls with
  | nil => intro ds _ _; exact ⟨[], rfl, by simp⟩
  | cons l ls ih =>
    intro ds hd h
    cases ds with
    | nil => simp at hd
    | cons d ds =>
      obtain ⟨x, h1, h2⟩ := h 0 l d rfl rfl
      obtain ⟨xs, h3, h4⟩ := ih ds (by simpa using hd) (fun i l d hl hdd => h (i + 1) l d (by simpa using hl) (by simpa using hdd))
      exact ⟨x :: xs, by rw [h1, h3]; rfl, fun y hy => by
        rcases List.mem_cons.1 hy with rfl | hy
        · exact h2
        · exact h4 y hy⟩
theorem flat_ones {α : Type} {f : α → Value} (xs : List α) : (xs.map (fun x => [f x])).flatten = xs.map f := by
  induction xs with
  | nil => rfl
  | cons x xs ih => simp only [List.map_cons, List.flatten_cons, ih]; rfl
theorem Abs.ints (hs : Lt s) {t e : TypeId} {k : IntKind} (ht : P.underlying t = some (.slice e)) (he : P.underlying e = some (.int k)) (hsz : P.cellsOf e = 1) {cs : List Value} {d : DataW T} (h : Abs P s t cs d) :
    ∃ (v : Value) (xs : List Int), cs = [v] ∧ SlC s 1 v xs.length (xs.map (.int k)) ∧ xs.length ≤ maxLen ∧ ∀ x ∈ xs, (Lit.int k x).wf = true := by
  obtain ⟨v, ls, ds, h1, h2, h3, h4, h5⟩ := h.sl hs ht hsz (by decide)
  obtain ⟨xs, h6, h7⟩ := ones_of (f := .int k) (p := fun x => (Lit.int k x).wf = true) ls ds h4 (fun i l d hl hd => by
    obtain ⟨n, g1, _, g2⟩ := (h5 i l d hl hd).2.i he
    exact ⟨n, g1, g2⟩)
  subst h6
  rw [flat_ones, List.length_map] at h2
  rw [List.length_map] at h3
  exact ⟨v, xs, h1, h2, h3, h7⟩
theorem Abs.tab (hs : Lt s) {t t' e : TypeId} {k : IntKind} (ht : P.underlying t = some (.slice t')) (ht' : P.underlying t' = some (.slice e)) (he : P.underlying e = some (.int k)) (hsz' : P.cellsOf t' = 1) (hsz : P.cellsOf e = 1) {cs : List Value} {d : DataW T} (h : Abs P s t cs d) :
    ∃ (v : Value) (rows : List (List Int)) (cells : List Value), cs = [v] ∧ SlC s 1 v rows.length cells ∧ rows.length ≤ maxLen ∧ (∀ (i : Nat) (r : List Int), rows[i]? = some r → (∃ c, cells[i]? = some c ∧ SlC s 1 c r.length (r.map (.int k))) ∧ r.length ≤ maxLen ∧ ∀ x ∈ r, (Lit.int k x).wf = true) := by
  obtain ⟨v, ls, ds, h1, h2, h3, h4, h5⟩ := h.sl hs ht hsz' (by decide)
  have key : ∀ (ls : List (List Value)) (ds : List (DataW T)), ds.length = ls.length → (∀ (i : Nat) (l : List Value) (d : DataW T), ls[i]? = some l → ds[i]? = some d → Abs P s t' l d) →
      ∃ (rows : List (List Int)) (cells : List Value), ls.flatten = cells ∧ ls.length = rows.length ∧ (∀ (i : Nat) (r : List Int), rows[i]? = some r → (∃ c, cells[i]? = some c ∧ SlC s 1 c r.length (r.map (.int k))) ∧ r.length ≤ maxLen ∧ ∀ x ∈ r, (Lit.int k x).wf = true) := by
    intro ls
    induction ls with
    | nil => intro ds _ _; exact ⟨[], [], rfl, rfl, fun i r h => by simp at h⟩
    | cons l ls ih =>
      intro ds hd h
      cases ds with
      | nil => simp at hd
      | cons d ds =>
        obtain ⟨c, xs, g1, g2, g3, g4⟩ := (h 0 l d rfl rfl).ints hs ht' he hsz
        obtain ⟨rows, cells, g5, g6, g7⟩ := ih ds (by simpa using hd) (fun i l d hl hdd => h (i + 1) l d (by simpa using hl) (by simpa using hdd))
        refine ⟨xs :: rows, c :: cells, by rw [g1, List.flatten_cons, g5]; rfl, by simp [g6], fun i r hr => ?_⟩
        cases i with
        | zero => simp at hr; subst hr; exact ⟨⟨c, rfl, g2⟩, g3, g4⟩
        | succ i => exact g7 i r (by simpa using hr)
  obtain ⟨rows, cells, g1, g2, g3⟩ := key ls ds h4 (fun i l d hl hd => (h5 i l d hl hd).2)
  rw [g1, g2] at h2
  rw [g2] at h3
  exact ⟨v, rows, cells, h1, h2, h3, g3⟩
end
section
variable {P : Program} {w : World} {T : Type} {enc : TypeId × Value → T} {base : Nat} {held : Bool}
theorem law_calls (hX : ExtOk P) (hm : P.follows .mixedOrders = true) {orc : FuncId → List Value → Option Value} (ho : OrcOk P orc) {f : FuncId} {r : Reach} {b0 k : Nat} {ts : List TypeId} {vs : List Value} {ds : List (DataW T)} {p : List MemPlace}
    (h : DataW.TrodAll enc P w base (fun _ => true) held ts vs ds p) (hk : ∀ t ∈ ts, plainT P k t = true) (hval : ∀ (j : Nat) (t : TypeId) (v : Value), ts[j]? = some t → vs[j]? = some v → Value.okWide P w r b0 t v)
    (hrun : ∀ (s : Mm) (avs : List Value), RoAll s → Lt s → AbsL P s ts avs ds → CallP ⟨orc, fnsOf P⟩ f avs s (fun v _ => v = .bool true)) :
    Calls P f vs.toArray w fun e w' => e = .returned (.bool true) ∧ RowKit.Below w.heap.size w w' := by
  have hR0 : Rep (fun _ => none) noBlk w := ⟨fun _ _ hB => (nomatch hB), fun _ _ _ _ hB => absurd hB (by rintro ⟨k, hk, _⟩; cases hk), fun _ _ => rfl, fun _ _ hB => (nomatch hB)⟩
  obtain ⟨ρ, s, avs, _, hR, hro, hvl, hab⟩ := args_place ts vs ds p h hk hval (fun _ => none) noBlk hR0 (fun _ _ hB => (nomatch hB))
  have hlt : Lt s := fun B k hB => by
    obtain ⟨L, h1, _⟩ := hR.blk B k hB
    rcases Nat.lt_or_ge B s.nxt with h | h
    · exact h
    · rw [hR.fresh B h] at h1; cases h1
  obtain ⟨_, s', ⟨n, hev⟩, rfl⟩ := hrun s avs hro hlt hab
  obtain ⟨_, hc⟩ := evX_sound hX hm (fnsOf_ok P) ho n f avs s (.bool true) s' hev ρ w vs hvl hR
  refine hc.mono fun e w' he => ?_
  obtain ⟨ρ', v', rfl, h1, _, h3⟩ := he
  cases h1
  exact ⟨rfl, h3.below fun B ⟨k, hk, hkr⟩ => by rw [hro B k hk] at hkr; cases hkr⟩
end
variable {s : Mm}
theorem Own.store {sz n k : Nat} {v x : Value} {cs : List Value} (h : Own s sz v n cs) (hk : k < cs.length) (hx : oneCell x = true) :
    ∃ s', storeV s 1 (elP v k) x = some (undefV, s') ∧ Own s' sz v n (cs.set k x) ∧ Same s s' (footV v) := by
  cases h with
  | nil => simp at hk
  | @opn B n cs hg hB hl hz =>
    refine ⟨setBlk s B (.cells (cs.set k x) true), ?_, ?_, .set rfl⟩
    · simp only [elP, add_none', Nat.zero_add]
      exact store_g hg hx hk
    · exact .opn (by rw [get_set, if_pos rfl]) hB (by simpa using hl) hz
  | @cap B n c cs rest hg hB hl hr hn hc =>
    refine ⟨setBlk s B (.cells (cs.set k x ++ rest) false), ?_, ?_, .set rfl⟩
    · simp only [elP, add_none', Nat.zero_add]
      rw [store_g hg hx (by simp; omega), List.set_append_left _ _ hk]
    · exact .cap (by rw [get_set, if_pos rfl]) hB (by simpa using hl) hr hn hc
end Go.Vam

/- One closed function is known. -/
namespace Go.Vam
open Go
def orcW (w : FuncId) (f : FuncId) (args : List Value) : Option Value := match args with
  | [] => if f = w then some (.bool true) else none
  | _ => none
theorem orcW_self (w : FuncId) : orcW w w [] = some (.bool true) := by simp [orcW]
theorem orcW_other {w f : FuncId} (h : f ≠ w) (args : List Value) : orcW w f args = none := by
  unfold orcW; split
  · rw [if_neg h]
  · rfl
theorem orcW_ok {P : Program} (hX : ExtOk P) (hm : P.follows .mixedOrders = true) (n : Nat) (f : FuncId) (h : endsTrue (evCall (Trie Value) (fnsOf P) n f [] none0) = true) : OrcOk P (orcW f) := by
  intro g args v hv
  unfold orcW at hv
  split at hv
  · split at hv
    · rename_i e
      subst e
      cases hv
      obtain ⟨s', hs⟩ := endsTrue_iff h
      refine ⟨?_, fun ρ args' w hargs => ?_⟩
      · cases n with
        | zero => cases hs
        | succ n =>
          simp only [evCall] at hs
          split at hs
          · cases hs
          · rename_i afn hafn
            obtain ⟨fn, h1, h2, h3⟩ := fnsOf_ok P g afn hafn
            refine ⟨fn, h1, ?_, h3⟩
            unfold compFn at h2
            split at h2
            · rename_i hb; rw [hb]; rfl
            · cases h2
      · have e : args' = [] := by
          have := hargs.1
          exact List.eq_nil_of_length_eq_zero (by simpa using this.symm)
        subst e
        exact (closed_call hX hm n g h w).mono fun e w' ⟨a, b⟩ => ⟨.bool true, a, .bool true, b⟩
    · cases hv
  · cases hv
end Go.Vam

/- Arguments that read as they did. -/
namespace Go.Vam
open Go Go.ChangeShapes Go.RowKit
theorem trodAll_stays {H : Type} {enc : TypeId × Value → H} {P : Program} (hl : laidOutB P = true) {W W' : World} (hb : Below W.heap.size W W') {sp : Nat → Bool} : ∀ (ts : List TypeId) (vs : List Value) (ds : List (DataW H)) (p : List MemPlace),
    DataW.TrodAll enc P W 0 (fun _ => true) true ts vs ds p → (∀ t ∈ ts, P.readableRec t = true ∧ t < P.types.size) → (∀ x ∈ p, x.block < W.heap.size) → (∀ x ∈ p, sp x.block = true) → DataW.TrodAll enc P W' 0 sp true ts vs ds p := by
  intro ts
  induction ts with
  | nil =>
    intro vs ds p h _ _ _
    obtain ⟨rfl, rfl, rfl⟩ := trodAll_nil h
    exact trodAll_mk0
  | cons t ts ih =>
    intro vs ds p h hr hlt hsp
    obtain ⟨v, vs1, d, ds1, a, b, rfl, rfl, rfl, h1, h2⟩ := trodAll_cons h
    obtain ⟨r1, r2⟩ := hr t (by simp)
    exact ⟨a, b, WideElems.Trod_stays hl r1 r2 h1 (fun x hx => hb.same (hlt x (by simp [hx]))) (fun x hx => hsp x (by simp [hx])),
      ih vs1 ds1 b h2 (fun t ht => hr t (by simp [ht])) (fun x hx => hlt x (by simp [hx])) (fun x hx => hsp x (by simp [hx])), rfl⟩
end Go.Vam
