/- A region that draws its order: every order leaves what the run in the order of the text tells. -/
import Derived.Test.YtpphomoijlilfaaVam19
namespace Go.Vam
open Go
section
variable {P : Program} {F H : Type} [Store F Value] [Store H ABlk] {cf : CallF H} {l : List DOper} {D : Nat → DState F H} {V : Nat → Value} {nt : Nat} {ops : Array Oper}
theorem store_union (Φ : Nat → ABlk → Prop) (hfun : ∀ B b b', Φ B b → Φ B b' → b = b') (N : Nat) (h : H) :
    ∃ h' : H, ∀ B b, Store.get h' B = some b ↔ ((B < N ∧ Φ B b) ∨ ((∀ b', B < N → ¬ Φ B b') ∧ Store.get h B = some b)) := by
  induction N with
  | zero => exact ⟨h, fun B b => by simp⟩
  | succ N ih =>
    obtain ⟨h', hh⟩ := ih
    rcases Classical.em (∃ b, Φ N b) with ⟨b0, hb0⟩ | hno
    · refine ⟨Store.put h' N (some b0), fun B b => ?_⟩
      rw [Store.get_put]
      by_cases e : B = N
      · subst e
        simp only [if_true]
        constructor
        · intro x; cases x; exact .inl ⟨by omega, hb0⟩
        · rintro (⟨_, x⟩ | ⟨x, _⟩)
          · rw [hfun _ _ _ hb0 x]
          · exact absurd hb0 (x _ (by omega))
      · rw [if_neg e, hh]
        have : B < N ↔ B < N + 1 := by omega
        rw [this]
    · refine ⟨h', fun B b => ?_⟩
      rw [hh]
      by_cases e : B = N
      · subst e
        constructor
        · rintro (⟨x, _⟩ | ⟨_, x⟩)
          · omega
          · exact .inr ⟨fun b' _ hb => hno ⟨b', hb⟩, x⟩
        · rintro (⟨_, x⟩ | ⟨_, x⟩)
          · exact absurd ⟨b, x⟩ hno
          · exact .inr ⟨fun b' hlt => absurd hlt (by omega), x⟩
      · have : B < N ↔ B < N + 1 := by omega
        rw [this]
theorem Trace.acts_const (T : Trace cf l D V) (i k : Nat) (hik : i ≤ k) (hk : k ≤ l.length) (h : ∀ e, i ≤ e → e < k → ¬ IsAct l e) : (D k).acts = (D i).acts := by
  induction k with
  | zero => have : i = 0 := by omega
            rw [this]
  | succ k ih =>
    by_cases e : i = k + 1
    · rw [e]
    · have hlt : k < l.length := by omega
      obtain ⟨o, ho⟩ : ∃ o, l[k]? = some o := ⟨_, List.getElem?_eq_getElem hlt⟩
      have hn : o.o.op.kind ≠ .act := fun hk' => h k (by omega) (by omega) ⟨o, ho, hk'⟩
      rw [((T k o ho).rest hn).2.2]
      exact ih (by omega) (by omega) fun e h1 h2 => h e h1 (by omega)
theorem Trace.acts_pre (T : Trace cf l D V) (hp : Plan P nt ops l) : ∀ (i : Nat) (o : DOper), l[i]? = some o → o.o.op.kind = .act → ∀ e, e < i → IsAct l e → o.pre.testBit e = true := by
  intro i
  induction i using Nat.strongRecOn with
  | ind i ih =>
    intro o ho hk e he hA
    have hi : i < l.length := (List.getElem?_eq_some_iff.1 ho).1
    rcases last_act l 0 i with h | ⟨a, _, h2, h3, h4⟩
    · exact absurd hA (h e (Nat.zero_le _) he)
    · obtain ⟨q, hq, hqk⟩ := id h3
      have hc := T.acts_const (a + 1) i (by omega) (by omega) fun e g1 g2 => h4 e (by omega) g2
      rw [((T a q hq).act hqk).2.1] at hc
      have hb := ((T i o ho).act hk).2.2.2.1 a _ hc
      rcases Nat.lt_trichotomy e a with x | x | x
      · have := ih a h2 q hq hqk e x hA
        exact hp.trans i o a q e ho hb hq this
      · rw [x]; exact hb
      · exact absurd hA (h4 e x he)
def Floats (l : List DOper) (S : Nat → Prop) (p f : Nat) : Prop := S f ∧ ∀ e q, e < p → l[e]? = some q → q.o.op.kind = .act → q.pre.testBit f = false
def Fl (l : List DOper) (D : Nat → DState F H) (V : Nat → Value) (S : Nat → Prop) (p B : Nat) (b : ABlk) : Prop := ∃ f, Floats l S p f ∧ NewB l D V f B b
theorem Fl.fun (T : Trace cf l D V) {S : Nat → Prop} {p B : Nat} {b b' : ABlk} (h : Fl l D V S p B b) (g : Fl l D V S p B b') : b = b' := by
  obtain ⟨f, _, h⟩ := h
  obtain ⟨f', _, g⟩ := g
  exact (h.unique T g).2
theorem NewB.lt (T : Trace cf l D V) {f B : Nat} {b : ABlk} (h : NewB l D V f B b) : B < (D l.length).nid := by
  obtain ⟨o, h1, h2, _, rfl, _⟩ := h
  exact T.nid_lt ⟨o, h1, h2⟩ (List.getElem?_eq_some_iff.1 h1).1 (Nat.le_refl _)
theorem NewB.ge (T : Trace cf l D V) {f B : Nat} {b : ABlk} (h : NewB l D V f B b) : (D 0).nid ≤ B := by
  obtain ⟨o, h1, h2, _, rfl, _⟩ := h
  exact T.nid_mono 0 f (Nat.zero_le _) (Nat.le_of_lt (List.getElem?_eq_some_iff.1 h1).1)
structure Inv (nt : Nat) (l : List DOper) (D : Nat → DState F H) (V : Nat → Value) (ρ0 : Rho) (s0 : AS H) (w0 : World) (S : Nat → Prop) [DecidablePred S] (p : Nat) (a : Act) (w : World) (ρ : Rho) (sL : AS H) : Prop where
  size : a.tmps.size = nt
  fr : ∀ t, t < nt → VR ρ (lastW l (D 0).fr V S t l.length) (a.tmps.getD t undef)
  pl : p ≤ l.length
  acts : ∀ e, IsAct l e → (S e ↔ e < p)
  nxt : sL.nxt = (D p).s.nxt
  live : ∀ B b, Store.get sL.h B = some b ↔ (Store.get (D p).s.h B = some b ∨ Fl l D V S p B b)
  apart : ∀ B b, Fl l D V S p B b → Store.get (D p).s.h B = none
  rep : Rep ρ sL w
  ext : Ext ρ0 s0 w0 ρ sL w
  none : ∀ f o, ¬ S f → l[f]? = some o → o.o.op.kind = .new → ρ (D f).nid = none
  big : (D l.length).nid ≤ sL.nxt
end
section
variable {F H : Type} [Store F Value] {l : List DOper} {D : Nat → DState F H} {V : Nat → Value} {S : Nat → Prop} {p : Nat}
theorem Fl.shift {p' : Nat} (hpp : p ≤ p') (hn : ∀ e, p ≤ e → e < p' → ¬ IsAct l e) {B : Nat} {b : ABlk} : Fl l D V S p' B b ↔ Fl l D V S p B b := by
  constructor
  · rintro ⟨f, ⟨h1, h2⟩, h3⟩
    exact ⟨f, ⟨h1, fun e q g1 => h2 e q (by omega)⟩, h3⟩
  · rintro ⟨f, ⟨h1, h2⟩, h3⟩
    refine ⟨f, ⟨h1, fun e q g1 g2 g3 => ?_⟩, h3⟩
    rcases Nat.lt_or_ge e p with x | x
    · exact h2 e q x g2 g3
    · exact absurd ⟨q, g2, g3⟩ (hn e x g1)
end
section
variable {P : Program} {F : Type} [Store F Value] {l : List DOper} {nt : Nat} {ops : Array Oper} {S : Nat → Prop} {i : Nat} {o : Oper} {d : DOper}
theorem lt_ops (hp : Plan P nt ops l) {j : Nat} {q : DOper} (hq : l[j]? = some q) : ∃ o, ops[j]? = some o := by
  have := (List.getElem?_eq_some_iff.1 hq).1
  have := hp.len
  exact ⟨ops[j], by simp [show j < ops.size by omega]⟩
structure Nxt (l : List DOper) (ops : Array Oper) (S : Nat → Prop) (i : Nat) (o : Oper) (d : DOper) : Prop where
  ho : ops[i]? = some o
  hd : l[i]? = some d
  out : ¬ S i
  pre : ∀ k, d.pre.testBit k = true → S k
  closed : ∀ j q k, l[j]? = some q → S j → q.pre.testBit k = true → S k
theorem Nxt.lt (hN : Nxt l ops S i o d) : i < l.length := (List.getElem?_eq_some_iff.1 hN.hd).1
theorem Nxt.free (hN : Nxt l ops S i o d) {j : Nat} (h : ¬ S j) : d.pre.testBit j = false := by
  cases h' : d.pre.testBit j with
  | false => rfl
  | true => exact absurd (hN.pre j h') h
theorem Nxt.free' (hN : Nxt l ops S i o d) {j : Nat} {q : DOper} (hq : l[j]? = some q) (h : S j) : q.pre.testBit i = false := by
  cases h' : q.pre.testBit i with
  | false => rfl
  | true => exact absurd (hN.closed j q i hq h h') hN.out
theorem reads_lt (hp : Plan P nt ops l) (hN : Nxt l ops S i o d) {x : Operand} (hx : x ∈ o.op.operands.toList) : oprOk nt x = true := by
  have := (hp.ok i o d hN.ho hN.hd).opr
  rw [Array.all_eq_true_iff_forall_mem] at this
  exact this x (by simpa using hx)
theorem sel_exec {a : Act} (hp : Plan P nt ops l) (hN : Nxt l ops S i o d) : execOp (selA a nt (readsOf o d.o)).eval o = execOp a.eval o := by
  refine execOp_congr o (hp.nosel i o · · hN.ho) fun x hx => ?_
  have hx' : x ∈ o.op.operands.toList := by simpa using hx
  have hok := reads_lt hp hN hx'
  cases x with
  | tmp t =>
    have ht : t < nt := by simpa [oprOk] using hok
    simp only [Act.eval]
    rw [selA_get _ _ _ _ ht, if_pos]
    exact List.mem_append_right _ (mem_tmps.2 hx')
  | _ => rfl
theorem sel_ops (hp : Plan P nt ops l) (hN : Nxt l ops S i o d) (fr : F) : ∀ x ∈ d.o.op.operands, evO (sel fr (readsOf o d.o)) x = evO fr x := fun x hx =>
  evO_sel fun t e => by
    subst e
    exact List.mem_append_right _ (hp.opr i o d hN.ho hN.hd t (mem_tmps.2 hx))
end
section
variable {P : Program} {F H : Type} [Store F Value] {l : List DOper} {D : Nat → DState F H} {V : Nat → Value} {nt : Nat} {ops : Array Oper} {ρ : Rho} {S : Nat → Prop} [DecidablePred S] {a : Act} {i : Nat} {o : Oper} {d : DOper}
theorem Act.put_getD (a : Act) (d : Option Tmp) (v : Value) (t : Tmp) (ht : t < a.tmps.size) : (a.put d v).tmps.getD t undef = if d = some t then v else a.tmps.getD t undef := by
  cases d with
  | none => simp [Act.put]
  | some d =>
    simp only [Act.put]
    by_cases e : d = t
    · subst e; simp [ht]
    · have : ¬ (some d = some t) := fun h => e (by cases h; rfl)
      simp [Array.getElem?_setIfInBounds_ne e, this]
theorem Act.put_size (a : Act) (d : Option Tmp) (v : Value) : (a.put d v).tmps.size = a.tmps.size := by
  cases d <;> simp [Act.put]
theorem fr_step (hp : Plan P nt ops l) (hN : Nxt l ops S i o d) (hsz : a.tmps.size = nt) (h : ∀ t, t < nt → VR ρ (lastW l (D 0).fr V S t l.length) (a.tmps.getD t undef)) {v' : Value} (hv : VR ρ (V i) v') :
    ∀ t, t < nt → VR ρ (lastW l (D 0).fr V (fun j => j = i ∨ S j) t l.length) ((a.put o.dst v').tmps.getD t undef) := by
  intro t ht
  have hok := hp.ok i o d hN.ho hN.hd
  rw [Act.put_getD a o.dst v' t (by rw [hsz]; exact ht), ← hok.dst]
  by_cases e : d.o.dst = some t
  · rw [if_pos e, lastW_stop (k := i + 1) (by have := hN.lt; omega)]
    · simp only [lastW, hN.hd]
      rw [if_pos ⟨by simp, e⟩]; exact hv
    · intro j q h1 h2 hq hdst hs
      have hs' : S j := by rcases hs with x | x; omega; exact x
      obtain ⟨p, hpj⟩ := lt_ops hp hq
      exact ((hp.apart j i p o q d hpj hq hN.ho hN.hd (by omega) (hN.free' hq hs')).1 t e).2 hdst
  · rw [if_neg e, lastW_congr (S' := S)]
    · exact h t ht
    · intro j q _ hq hdst
      have : j ≠ i := fun x => by
        rw [x, hN.hd] at hq; cases hq; exact e hdst
      simp [this]
end
section
variable {P : Program} {F H : Type} [Store F Value] [Store H ABlk] {cf : CallF H} {l : List DOper} {D : Nat → DState F H} {V : Nat → Value} {nt : Nat} {ops : Array Oper}
variable {ρ0 ρ : Rho} {s0 sL : AS H} {w0 w : World} {S : Nat → Prop} [DecidablePred S] {p : Nat} {a : Act}
theorem Inv.shift (T : Trace cf l D V) (h : Inv nt l D V ρ0 s0 w0 S p a w ρ sL) {p' : Nat} (hpp : p ≤ p') (hp' : p' ≤ l.length) (hn : ∀ e, p ≤ e → e < p' → ¬ IsAct l e) :
    Inv nt l D V ρ0 s0 w0 S p' a w ρ sL := by
  have hs := T.s_const p p' hpp hp' hn
  refine ⟨h.size, h.fr, hp', fun e he => ?_, by rw [hs]; exact h.nxt, fun B b => by rw [hs, Fl.shift hpp hn]; exact h.live B b,
    fun B b hB => by rw [hs]; exact h.apart B b ((Fl.shift hpp hn).1 hB), h.rep, h.ext, h.none, h.big⟩
  rw [h.acts e he]
  constructor
  · intro x; omega
  · intro x
    rcases Nat.lt_or_ge e p with y | y
    · exact y
    · exact absurd he (hn e y x)
variable {i : Nat} {o : Oper} {d : DOper}
theorem frame_at (hp : Plan P nt ops l) (T : Trace cf l D V) (hN : Nxt l ops S i o d) {t : Tmp} (ht : t ∈ readsOf o d.o) :
    lastW l (D 0).fr V S t l.length = geT (D i).fr t := by
  have hi := hN.lt
  rw [T.frame t i (by omega), lastW_stop (k := i) (by omega)]
  · refine lastW_congr fun j q hj hq hdst => ⟨fun _ => trivial, fun _ => ?_⟩
    apply Classical.byContradiction; intro hns
    obtain ⟨p, hpj⟩ := lt_ops hp hq
    exact ((hp.apart i j o p d q hN.ho hN.hd hpj hq hj (hN.free hns)).1 t hdst).1 ht
  · intro j q h1 h2 hq hdst hs
    have : i ≠ j := fun e => hN.out (e ▸ hs)
    obtain ⟨p, hpj⟩ := lt_ops hp hq
    exact (hp.apart j i p o q d hpj hq hN.ho hN.hd (by omega) (hN.free' hq hs)).2 t hdst ht
theorem sel_fr (hp : Plan P nt ops l) (T : Trace cf l D V) (hN : Nxt l ops S i o d) (h : Inv nt l D V ρ0 s0 w0 S p a w ρ sL) : FrR ρ nt (sel (D i).fr (readsOf o d.o)) (selA a nt (readsOf o d.o)) := by
  refine ⟨by simp [selA], fun t ht => ?_⟩
  rw [sel_get, selA_get _ _ _ _ ht]
  by_cases e : t ∈ readsOf o d.o
  · rw [if_pos e, if_pos e, ← frame_at hp T hN e]; exact h.fr t ht
  · rw [if_neg e, if_neg e]; exact VR.undef
theorem sel_want (hp : Plan P nt ops l) (T : Trace cf l D V) (hN : Nxt l ops S i o d) (h : Inv nt l D V ρ0 s0 w0 S p a w ρ sL) : Region.wanted o (yielded ops a.tmps) = wantV (D i).fr d.o.guard := by
  have hok := hp.ok i o d hN.ho hN.hd
  have hg := hok.grd
  unfold Region.wanted wantV
  cases ho : o.guard with
  | none => rw [ho] at hg; simp only at hg; rw [hg]
  | some g =>
    obtain ⟨j, b⟩ := g
    rw [ho] at hg
    simp only at hg ⊢
    obtain ⟨t, h1, h2, h3⟩ := hg
    rw [h3]
    have hv := h.fr t h2
    rw [frame_at hp T hN (t := t) (by simp [readsOf, h3])] at hv
    have hlt : t < a.tmps.size := by rw [h.size]; exact h2
    have hy : a.tmps[t]? = some (a.tmps.getD t undef) := by
      simp [Array.getD, hlt]
    simp only [yielded, h1, Option.bind_some, hy]
    generalize geT (D i).fr t = u at *
    generalize a.tmps.getD t undef = u' at *
    cases hv <;> simp
end
end Go.Vam
