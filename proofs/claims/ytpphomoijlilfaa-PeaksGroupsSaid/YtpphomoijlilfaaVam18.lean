/- What the run of a drawn region in the order of the text leaves to look at. -/
import Derived.Test.YtpphomoijlilfaaVam17
namespace Go.Vam
open Go
section
variable {F H : Type} [Store F Value] [Store H ABlk] {cf : CallF H}
structure St (cf : CallF H) (o : DOper) (i : Nat) (d : DState F H) (v : Value) (d' : DState F H) : Prop where
  fr : d'.fr = puT d.fr o.o.dst v
  unw : wantV d.fr o.o.guard = false → v = undefV
  pur : o.o.op.kind = .pur → wantV d.fr o.o.guard = true → pureV d.fr o.o.op = some v
  rd : o.o.op.kind = .rd → wantV d.fr o.o.guard = true → readV d.fr d.s o.o.op = some v ∧ pastOk d.fr o.o.op v o.pre d.acts d.hist = true ∧ d'.watch = ⟨i, d.fr, o.o.op, v⟩ :: d.watch
  new : o.o.op.kind = .new → wantV d.fr o.o.guard = true → ∃ b, newV d.fr d.nid o.o.op = some (v, b) ∧ d'.flt = (i, d.nid, b) :: d.flt
  newu : o.o.op.kind = .new → wantV d.fr o.o.guard = false → d'.flt = d.flt
  nid : d'.nid = d.nid + (if o.o.op.kind = .new then 1 else 0)
  rest : o.o.op.kind ≠ .act → d'.s = d.s ∧ d'.hist = d.hist ∧ d'.acts = d.acts
  flt : o.o.op.kind ≠ .act → o.o.op.kind ≠ .new → d'.flt = d.flt
  wat : o.o.op.kind ≠ .act → ∀ x ∈ d.watch, x ∈ d'.watch
  act : o.o.op.kind = .act → d'.hist = d.s :: d.hist ∧ d'.acts = i :: d.acts ∧ d'.flt = (joinF o.pre d.flt d.s.h).2 ∧ (∀ a as, d.acts = a :: as → o.pre.testBit a = true) ∧
    (wantV d.fr o.o.guard = true → actV cf d.fr { d.s with h := (joinF o.pre d.flt d.s.h).1 } o.o.op = some (v, d'.s)) ∧
    (wantV d.fr o.o.guard = false → d'.s = { d.s with h := (joinF o.pre d.flt d.s.h).1 }) ∧
    (∀ x ∈ d.watch, o.pre.testBit x.i = true ∨ stillV d'.s x = true) ∧ (∀ x ∈ d.watch, o.pre.testBit x.i = false → x ∈ d'.watch)
theorem stepD_st {o : DOper} {i : Nat} {d d' : DState F H} (h : stepD cf o i d = some d') : ∃ v, St cf o i d v d' := by
  unfold stepD at h
  split at h
  · rename_i hk
    split at h
    · rename_i hw
      split at h
      · rename_i v hv
        cases h
        exact ⟨v, ⟨rfl, by simp [hw], fun _ _ => hv, by simp [hk], by simp [hk], by simp [hk], by simp [hk], fun _ => ⟨rfl, rfl, rfl⟩, fun _ _ => rfl, fun _ x hx => hx, by simp [hk]⟩⟩
      · cases h
    · rename_i hw
      cases h
      exact ⟨undefV, ⟨rfl, fun _ => rfl, by simp [hw], by simp [hk], by simp [hk], by simp [hk], by simp [hk], fun _ => ⟨rfl, rfl, rfl⟩, fun _ _ => rfl, fun _ x hx => hx, by simp [hk]⟩⟩
  · rename_i hk
    split at h
    · rename_i hw
      split at h
      · rename_i v hv
        split at h
        · rename_i hp
          cases h
          exact ⟨v, ⟨rfl, by simp [hw], by simp [hk], fun _ _ => ⟨hv, hp, rfl⟩, by simp [hk], by simp [hk], by simp [hk], fun _ => ⟨rfl, rfl, rfl⟩, fun _ _ => rfl, fun _ x hx => List.mem_cons_of_mem _ hx, by simp [hk]⟩⟩
        · cases h
      · cases h
    · rename_i hw
      cases h
      exact ⟨undefV, ⟨rfl, fun _ => rfl, by simp [hk], by simp [hw], by simp [hk], by simp [hk], by simp [hk], fun _ => ⟨rfl, rfl, rfl⟩, fun _ _ => rfl, fun _ x hx => hx, by simp [hk]⟩⟩
  · rename_i hk
    split at h
    · rename_i hw
      split at h
      · rename_i v b hv
        cases h
        exact ⟨v, ⟨rfl, by simp [hw], by simp [hk], by simp [hk], fun _ _ => ⟨b, hv, rfl⟩, by simp [hw], by simp [hk], fun _ => ⟨rfl, rfl, rfl⟩, by simp [hk], fun _ x hx => hx, by simp [hk]⟩⟩
      · cases h
    · rename_i hw
      cases h
      exact ⟨undefV, ⟨rfl, fun _ => rfl, by simp [hk], by simp [hk], by simp [hw], fun _ _ => rfl, by simp [hk], fun _ => ⟨rfl, rfl, rfl⟩, by simp [hk], fun _ x hx => hx, by simp [hk]⟩⟩
  · rename_i hk
    by_cases hpre : preHead o.pre d.acts = true
    case neg => rw [if_neg hpre] at h; cases h
    rw [if_pos hpre] at h
    · simp only at h
      generalize hv : (if wantV d.fr o.o.guard = true then actV cf d.fr { d.s with h := (joinF o.pre d.flt d.s.h).1 } o.o.op else some (undefV, { d.s with h := (joinF o.pre d.flt d.s.h).1 })) = r at h
      cases r with
      | none => simp at h
      | some p =>
        obtain ⟨v, s'⟩ := p
        simp only at h
        by_cases hwa : (d.watch.all fun w => o.pre.testBit w.i || stillV s' w) = true
        · rw [if_pos hwa] at h
          cases h
          rw [List.all_eq_true] at hwa
          refine ⟨v, ⟨rfl, fun hw => ?_, by simp [hk], by simp [hk], by simp [hk], by simp [hk], by simp [hk], by simp [hk], by simp [hk], by simp [hk], fun _ => ⟨rfl, rfl, rfl, fun a as e => ?_, fun hw => ?_, fun hw => ?_, fun x hx => ?_, fun x hx hb => ?_⟩⟩⟩
          · rw [hw] at hv; simp at hv; exact hv.1.symm
          · rw [e] at hpre; exact hpre
          · rw [hw] at hv; simpa using hv
          · rw [hw] at hv; simp at hv; exact hv.2.symm
          · have := hwa x hx; simpa using this
          · exact List.mem_filter.2 ⟨hx, by simp [hb]⟩
        · rw [if_neg hwa] at h; cases h
def Trace (cf : CallF H) (l : List DOper) (D : Nat → DState F H) (V : Nat → Value) : Prop := ∀ i o, l[i]? = some o → St cf o i (D i) (V i) (D (i + 1))
theorem trace_go : ∀ (l : List DOper) (i : Nat) (d r : DState F H), evD cf l i d = some r →
    ∃ (D : Nat → DState F H) (V : Nat → Value), D i = d ∧ D (i + l.length) = r ∧ ∀ k o, l[k]? = some o → St cf o (i + k) (D (i + k)) (V (i + k)) (D (i + k + 1)) := by
  intro l
  induction l with
  | nil => intro i d r h; simp [evD] at h; subst h; exact ⟨fun _ => d, fun _ => undefV, rfl, rfl, fun k o h => by simp at h⟩
  | cons o l ih =>
    intro i d r h
    simp only [evD] at h
    split at h
    · rename_i d' hd
      obtain ⟨v, hv⟩ := stepD_st hd
      obtain ⟨D, V, h1, h2, h3⟩ := ih (i + 1) d' r h
      refine ⟨fun k => if k = i then d else D k, fun k => if k = i then v else V k, by simp, ?_, fun k p hp => ?_⟩
      · have : i + (o :: l).length ≠ i := by simp
        simp only [this, if_false]
        rw [← h2]; congr 1; simp; omega
      · cases k with
        | zero =>
          simp at hp; subst hp
          simp only [Nat.add_zero, if_true]
          rw [if_neg (by omega), h1]; exact hv
        | succ k =>
          simp at hp
          have := h3 k p hp
          have e1 : i + (k + 1) = i + 1 + k := by omega
          rw [e1]
          show St cf p (i + 1 + k) (if i + 1 + k = i then d else D (i + 1 + k)) (if i + 1 + k = i then v else V (i + 1 + k)) (if i + 1 + k + 1 = i then d else D (i + 1 + k + 1))
          rw [if_neg (by omega), if_neg (by omega), if_neg (by omega)]
          exact this
    · cases h
theorem trace_of {l : List DOper} {d r : DState F H} (h : evD cf l 0 d = some r) : ∃ D V, D 0 = d ∧ D l.length = r ∧ Trace cf l D V := by
  obtain ⟨D, V, h1, h2, h3⟩ := trace_go l 0 d r h
  exact ⟨D, V, h1, by simpa using h2, fun i o hi => by simpa using h3 i o hi⟩
variable {l : List DOper} {D : Nat → DState F H} {V : Nat → Value}
def IsAct (l : List DOper) (e : Nat) : Prop := ∃ o, l[e]? = some o ∧ o.o.op.kind = .act
theorem Trace.s_const (T : Trace cf l D V) (i k : Nat) (hik : i ≤ k) (hk : k ≤ l.length) (h : ∀ e, i ≤ e → e < k → ¬ IsAct l e) : (D k).s = (D i).s := by
  induction k with
  | zero => have : i = 0 := by omega
            rw [this]
  | succ k ih =>
    by_cases e : i = k + 1
    · rw [e]
    · have hlt : k < l.length := by omega
      obtain ⟨o, ho⟩ : ∃ o, l[k]? = some o := ⟨_, List.getElem?_eq_getElem hlt⟩
      have hn : o.o.op.kind ≠ .act := fun hk' => h k (by omega) (by omega) ⟨o, ho, hk'⟩
      rw [((T k o ho).rest hn).1]
      exact ih (by omega) (by omega) fun e h1 h2 => h e h1 (by omega)
theorem last_act (l : List DOper) (i k : Nat) : (∀ e, i ≤ e → e < k → ¬ IsAct l e) ∨ ∃ a, i ≤ a ∧ a < k ∧ IsAct l a ∧ ∀ e, a < e → e < k → ¬ IsAct l e := by
  induction k with
  | zero => left; intro e _ h; omega
  | succ k ih =>
    by_cases hik : i ≤ k
    · rcases Classical.em (IsAct l k) with hk | hk
      · exact .inr ⟨k, hik, by omega, hk, fun e h1 h2 => by omega⟩
      · rcases ih with h | ⟨a, h1, h2, h3, h4⟩
        · left; intro e h1 h2
          rcases Nat.lt_or_ge e k with x | x
          · exact h e h1 x
          · have : e = k := by omega
            rw [this]; exact hk
        · refine .inr ⟨a, h1, by omega, h3, fun e g1 g2 => ?_⟩
          rcases Nat.lt_or_ge e k with x | x
          · exact h4 e g1 x
          · have : e = k := by omega
            rw [this]; exact hk
    · left; intro e h1 h2; omega
theorem first_act (l : List DOper) (i : Nat) : ∀ k, (∀ e, i ≤ e → e < k → ¬ IsAct l e) ∨ ∃ a, i ≤ a ∧ a < k ∧ IsAct l a ∧ ∀ e, i ≤ e → e < a → ¬ IsAct l e := by
  intro k
  induction k with
  | zero => left; intro e _ h; omega
  | succ k ih =>
    rcases ih with h | ⟨a, h1, h2, h3, h4⟩
    · rcases Classical.em (i ≤ k ∧ IsAct l k) with hk | hk
      · exact .inr ⟨k, hk.1, by omega, hk.2, fun e g1 g2 => h e g1 g2⟩
      · left; intro e g1 g2
        rcases Nat.lt_or_ge e k with x | x
        · exact h e g1 x
        · have : e = k := by omega
          subst this
          exact fun hh => hk ⟨g1, hh⟩
    · exact .inr ⟨a, h1, by omega, h3, h4⟩
theorem Trace.past (T : Trace cf l D V) : ∀ (i : Nat), i ≤ l.length → ∀ (fr : F) (op : AOp) (v : Value) (pre : Nat), pastOk fr op v pre (D i).acts (D i).hist = true →
    ∀ a, a < i → IsAct l a → (∀ e, a ≤ e → e < i → IsAct l e → pre.testBit e = false) → stillV (D a).s ⟨0, fr, op, v⟩ = true := by
  intro i
  induction i with
  | zero => intro _ fr op v pre _ a ha; omega
  | succ i ih =>
    intro hi fr op v pre hp a ha hA hn
    obtain ⟨o, ho⟩ : ∃ o, l[i]? = some o := ⟨_, List.getElem?_eq_getElem (by omega)⟩
    have hs := T i o ho
    by_cases hk : o.o.op.kind = .act
    · obtain ⟨h1, h2, _⟩ := hs.act hk
      rw [h1, h2] at hp
      simp only [pastOk] at hp
      rw [hn i (by omega) (by omega) ⟨o, ho, hk⟩] at hp
      simp only [Bool.false_eq_true, if_false, Bool.and_eq_true] at hp
      rcases Nat.lt_or_ge a i with x | x
      · exact ih (by omega) fr op v pre hp.2 a x hA fun e g1 g2 => hn e g1 (by omega)
      · have : a = i := by omega
        rw [this]; exact hp.1
    · obtain ⟨_, h1, h2⟩ := hs.rest hk
      rw [h1, h2] at hp
      have hai : a ≠ i := fun e => by
        obtain ⟨o', ho', hk'⟩ := hA
        rw [e, ho] at ho'; cases ho'; exact hk hk'
      exact ih (by omega) fr op v pre hp a (by omega) hA fun e g1 g2 => hn e g1 (by omega)
theorem Trace.watched (T : Trace cf l D V) {i : Nat} {o : DOper} (ho : l[i]? = some o) (hk : o.o.op.kind = .rd) (hw : wantV (D i).fr o.o.guard = true) :
    ∀ k, i < k → k ≤ l.length → (∀ e q, i < e → e < k → l[e]? = some q → q.o.op.kind = .act → q.pre.testBit i = false) → (⟨i, (D i).fr, o.o.op, V i⟩ : Watch F) ∈ (D k).watch := by
  intro k
  induction k with
  | zero => intro h; omega
  | succ k ih =>
    intro hik hkl hn
    obtain ⟨q, hq⟩ : ∃ q, l[k]? = some q := ⟨_, List.getElem?_eq_getElem (by omega)⟩
    have hs := T k q hq
    by_cases e : k = i
    · subst e
      rw [ho] at hq; cases hq
      rw [(hs.rd hk hw).2.2]
      exact List.mem_cons_self ..
    · have hm := ih (by omega) (by omega) fun e q h1 h2 => hn e q h1 (by omega)
      by_cases hka : q.o.op.kind = .act
      · exact (hs.act hka).2.2.2.2.2.2.2 _ hm (hn k q (by omega) (by omega) hq hka)
      · exact hs.wat hka _ hm
theorem Trace.behind (T : Trace cf l D V) {i : Nat} {o : DOper} (ho : l[i]? = some o) (hk : o.o.op.kind = .rd) (hw : wantV (D i).fr o.o.guard = true)
    {e : Nat} {q : DOper} (hie : i < e) (hq : l[e]? = some q) (hka : q.o.op.kind = .act)
    (hn : ∀ e' q, i < e' → e' ≤ e → l[e']? = some q → q.o.op.kind = .act → q.pre.testBit i = false) : stillV (D (e + 1)).s ⟨0, (D i).fr, o.o.op, V i⟩ = true := by
  have hel : e < l.length := (List.getElem?_eq_some_iff.1 hq).1
  have hm := T.watched ho hk hw e hie (by omega) fun e' q h1 h2 => hn e' q h1 (by omega)
  have := ((T e q hq).act hka).2.2.2.2.2.2.1 _ hm
  rw [hn e q hie (Nat.le_refl _) hq hka] at this
  simp only [Bool.false_eq_true, false_or] at this
  unfold stillV at this ⊢
  exact this
def IsNew (l : List DOper) (D : Nat → DState F H) (f : Nat) : Prop := ∃ o, l[f]? = some o ∧ o.o.op.kind = .new ∧ wantV (D f).fr o.o.guard = true
theorem Trace.nid_mono (T : Trace cf l D V) (i k : Nat) (hik : i ≤ k) (hk : k ≤ l.length) : (D i).nid ≤ (D k).nid := by
  induction k with
  | zero => have : i = 0 := by omega
            rw [this]; exact Nat.le_refl _
  | succ k ih =>
    by_cases e : i = k + 1
    · rw [e]; exact Nat.le_refl _
    · obtain ⟨o, ho⟩ : ∃ o, l[k]? = some o := ⟨_, List.getElem?_eq_getElem (by omega)⟩
      have := ih (by omega) (by omega)
      rw [(T k o ho).nid]; omega
theorem Trace.nid_lt (T : Trace cf l D V) {f k : Nat} (hf : ∃ o, l[f]? = some o ∧ o.o.op.kind = .new) (hfk : f < k) (hk : k ≤ l.length) : (D f).nid < (D k).nid := by
  obtain ⟨o, ho, hn⟩ := hf
  have h1 := (T f o ho).nid
  rw [if_pos hn] at h1
  have := T.nid_mono (f + 1) k (by omega) hk
  omega
theorem countNew_eq (T : Trace cf l D V) : (D l.length).nid = (D 0).nid + countNew l := by
  have key : ∀ (m : List DOper) (i : Nat), (∀ k, m[k]? = l[i + k]?) → (D (i + m.length)).nid = (D i).nid + countNew m := by
    intro m
    induction m with
    | nil => intro i _; simp [countNew]
    | cons o m ih =>
      intro i h
      have h0 : l[i]? = some o := by simpa using (h 0).symm
      have := ih (i + 1) fun k => by
        have := h (k + 1)
        simp only [List.getElem?_cons_succ] at this
        rw [this]; congr 1; omega
      have e : i + (o :: m).length = i + 1 + m.length := by simp; omega
      rw [e, this, (T i o h0).nid, countNew]
      omega
  have := key l 0 fun k => by simp
  simpa using this
theorem joinF_rest (pre : Nat) : ∀ (flt : List (Nat × Nat × ABlk)) (h : H), (joinF pre flt h).2 = flt.filter fun x => !pre.testBit x.1 := by
  intro flt
  induction flt with
  | nil => intro h; rfl
  | cons x flt ih =>
    intro h
    obtain ⟨i, id, b⟩ := x
    simp only [joinF]
    by_cases hp : pre.testBit i = true
    · simp [hp, ih]
    · simp [hp, ih]
theorem joinF_get (pre : Nat) : ∀ (flt : List (Nat × Nat × ABlk)) (h : H) (x : Nat) (b : ABlk), Store.get (joinF pre flt h).1 x = some b →
    (∃ i, (i, x, b) ∈ flt ∧ pre.testBit i = true) ∨ (Store.get h x = some b ∧ ∀ i b', (i, x, b') ∈ flt → pre.testBit i = false) := by
  intro flt
  induction flt with
  | nil => intro h x b hb; exact .inr ⟨hb, fun i b' hm => by cases hm⟩
  | cons y flt ih =>
    intro h x b hb
    obtain ⟨i, id, b0⟩ := y
    simp only [joinF] at hb
    by_cases hp : pre.testBit i = true
    · rw [if_pos hp] at hb
      rw [Store.get_put] at hb
      split at hb
      · rename_i e; cases hb; subst e
        exact .inl ⟨i, List.mem_cons_self .., hp⟩
      · rename_i ne
        rcases ih h x b hb with ⟨j, h1, h2⟩ | ⟨h1, h2⟩
        · exact .inl ⟨j, List.mem_cons_of_mem _ h1, h2⟩
        · refine .inr ⟨h1, fun j b' hm => ?_⟩
          cases hm with
          | head => exact absurd rfl ne
          | tail _ hm => exact h2 j b' hm
    · rw [if_neg hp] at hb
      rcases ih h x b hb with ⟨j, h1, h2⟩ | ⟨h1, h2⟩
      · exact .inl ⟨j, List.mem_cons_of_mem _ h1, h2⟩
      · refine .inr ⟨h1, fun j b' hm => ?_⟩
        cases hm with
        | head => simpa using hp
        | tail _ hm => exact h2 j b' hm
theorem joinAll_get : ∀ (flt : List (Nat × Nat × ABlk)) (h : H) (x : Nat) (b : ABlk), Store.get (joinAll flt h) x = some b → (∃ i, (i, x, b) ∈ flt) ∨ (Store.get h x = some b ∧ ∀ i b', (i, x, b') ∉ flt) := by
  intro flt
  induction flt with
  | nil => intro h x b hb; exact .inr ⟨hb, fun i b' hm => by cases hm⟩
  | cons y flt ih =>
    intro h x b hb
    obtain ⟨i, id, b0⟩ := y
    simp only [joinAll, Store.get_put] at hb
    split at hb
    · rename_i e; cases hb; subst e; exact .inl ⟨i, List.mem_cons_self ..⟩
    · rename_i ne
      rcases ih h x b hb with ⟨j, h1⟩ | ⟨h1, h2⟩
      · exact .inl ⟨j, List.mem_cons_of_mem _ h1⟩
      · refine .inr ⟨h1, fun j b' hm => ?_⟩
        cases hm with
        | head => exact ne rfl
        | tail _ hm => exact h2 j b' hm
def NewB (l : List DOper) (D : Nat → DState F H) (V : Nat → Value) (f id : Nat) (b : ABlk) : Prop :=
  ∃ o, l[f]? = some o ∧ o.o.op.kind = .new ∧ wantV (D f).fr o.o.guard = true ∧ id = (D f).nid ∧ newV (D f).fr (D f).nid o.o.op = some (V f, b)
theorem NewB.unique {f f' id : Nat} {b b' : ABlk} (T : Trace cf l D V) (h : NewB l D V f id b) (h' : NewB l D V f' id b') : f = f' ∧ b = b' := by
  obtain ⟨o, h1, h2, h3, h4, h5⟩ := h
  obtain ⟨o', g1, g2, g3, g4, g5⟩ := h'
  have hf : f < l.length := (List.getElem?_eq_some_iff.1 h1).1
  have hf' : f' < l.length := (List.getElem?_eq_some_iff.1 g1).1
  have e : f = f' := by
    rcases Nat.lt_trichotomy f f' with x | x | x
    · have := T.nid_lt ⟨o, h1, h2⟩ x (by omega); omega
    · exact x
    · have := T.nid_lt ⟨o', g1, g2⟩ x (by omega); omega
  subst e
  rw [h1] at g1; cases g1
  rw [h5] at g5; cases g5
  exact ⟨rfl, rfl⟩
theorem Trace.waits (T : Trace cf l D V) (hd : (D 0).flt = []) : ∀ i, i ≤ l.length → ∀ f id b, (f, id, b) ∈ (D i).flt ↔
    (f < i ∧ NewB l D V f id b ∧ ∀ e q, f < e → e < i → l[e]? = some q → q.o.op.kind = .act → q.pre.testBit f = false) := by
  intro i
  induction i with
  | zero => intro _ f id b; rw [hd]; simp
  | succ i ih =>
    intro hi f id b
    obtain ⟨o, ho⟩ : ∃ o, l[i]? = some o := ⟨_, List.getElem?_eq_getElem (by omega)⟩
    have hs := T i o ho
    have ih' := ih (by omega) f id b
    by_cases hk : o.o.op.kind = .act
    · rw [(hs.act hk).2.2.1, joinF_rest, List.mem_filter, ih']
      simp only [Bool.not_eq_true', ]
      constructor
      · rintro ⟨⟨h1, h2, h3⟩, h4⟩
        refine ⟨by omega, h2, fun e q g1 g2 g3 g4 => ?_⟩
        rcases Nat.lt_or_ge e i with x | x
        · exact h3 e q g1 x g3 g4
        · have : e = i := by omega
          subst this
          rw [ho] at g3; cases g3
          simpa using h4
      · rintro ⟨h1, h2, h3⟩
        have hfi : f ≠ i := fun e => by
          obtain ⟨o', g1, g2, _⟩ := h2
          rw [e, ho] at g1; cases g1; rw [hk] at g2; cases g2
        exact ⟨⟨by omega, h2, fun e q g1 g2 => h3 e q g1 (by omega)⟩, by simpa using h3 i o (by omega) (by omega) ho hk⟩
    · have hnoact : ∀ (P' : Prop), (∀ e q, f < e → e < i + 1 → l[e]? = some q → q.o.op.kind = .act → q.pre.testBit f = false) ↔ (∀ e q, f < e → e < i → l[e]? = some q → q.o.op.kind = .act → q.pre.testBit f = false) := by
        intro _
        constructor
        · exact fun h e q g1 g2 => h e q g1 (by omega)
        · intro h e q g1 g2 g3 g4
          rcases Nat.lt_or_ge e i with x | x
          · exact h e q g1 x g3 g4
          · have : e = i := by omega
            subst this
            rw [ho] at g3; cases g3; exact absurd g4 hk
      rw [hnoact True]
      by_cases hn : o.o.op.kind = .new
      · cases hw : wantV (D i).fr o.o.guard with
        | true =>
          obtain ⟨b0, h1, h2⟩ := hs.new hn hw
          rw [h2, List.mem_cons, ih']
          constructor
          · rintro (h | ⟨h3, h4, h5⟩)
            · cases h
              exact ⟨by omega, ⟨o, ho, hn, hw, rfl, h1⟩, fun e q g1 g2 => by omega⟩
            · exact ⟨by omega, h4, h5⟩
          · rintro ⟨h3, h4, h5⟩
            by_cases e : f = i
            · left
              obtain ⟨o', g1, g2, g3, g4, g5⟩ := h4
              subst e
              rw [ho] at g1; cases g1
              rw [h1] at g5; cases g5
              rw [g4]
            · exact .inr ⟨by omega, h4, h5⟩
        | false =>
          rw [hs.newu hn hw, ih']
          constructor
          · rintro ⟨h3, h4, h5⟩; exact ⟨by omega, h4, h5⟩
          · rintro ⟨h3, h4, h5⟩
            have : f ≠ i := fun e => by
              obtain ⟨o', g1, g2, g3, _⟩ := h4
              rw [e, ho] at g1; cases g1
              rw [e, hw] at g3; cases g3
            exact ⟨by omega, h4, h5⟩
      · rw [hs.flt hk hn, ih']
        constructor
        · rintro ⟨h3, h4, h5⟩; exact ⟨by omega, h4, h5⟩
        · rintro ⟨h3, h4, h5⟩
          have : f ≠ i := fun e => by
            obtain ⟨o', g1, g2, _⟩ := h4
            rw [e, ho] at g1; cases g1
            exact hn g2
          exact ⟨by omega, h4, h5⟩
def lastW (l : List DOper) (fr0 : F) (V : Nat → Value) (S : Nat → Prop) [DecidablePred S] (t : Tmp) : Nat → Value
  | 0 => geT fr0 t
  | k + 1 => match l[k]? with
    | some o => if S k ∧ o.o.dst = some t then V k else lastW l fr0 V S t k
    | none => lastW l fr0 V S t k
theorem Trace.frame (T : Trace cf l D V) (t : Tmp) : ∀ i, i ≤ l.length → geT (D i).fr t = lastW l (D 0).fr V (fun _ => True) t i := by
  intro i
  induction i with
  | zero => intro _; rfl
  | succ i ih =>
    intro hi
    obtain ⟨o, ho⟩ : ∃ o, l[i]? = some o := ⟨_, List.getElem?_eq_getElem (by omega)⟩
    simp only [lastW, ho, true_and]
    rw [(T i o ho).fr]
    cases hd : o.o.dst with
    | none => simp only [puT]; rw [if_neg (by simp)]; exact ih (by omega)
    | some d =>
      simp only [puT, geT, Store.get_put]
      by_cases e : t = d
      · subst e; simp
      · rw [if_neg e, if_neg (fun h => e (by cases h; rfl))]
        exact ih (by omega)
theorem lastW_congr {fr0 : F} {S S' : Nat → Prop} [DecidablePred S] [DecidablePred S'] {t : Tmp} {k : Nat} (h : ∀ j o, j < k → l[j]? = some o → o.o.dst = some t → (S j ↔ S' j)) :
    lastW l fr0 V S t k = lastW l fr0 V S' t k := by
  induction k with
  | zero => rfl
  | succ k ih =>
    have ih' := ih fun j o hj => h j o (by omega)
    simp only [lastW]
    cases ho : l[k]? with
    | none => exact ih'
    | some o =>
      simp only
      by_cases hd : o.o.dst = some t
      · have := h k o (by omega) ho hd
        by_cases hs : S k
        · rw [if_pos ⟨hs, hd⟩, if_pos ⟨this.1 hs, hd⟩]
        · rw [if_neg (fun x => hs x.1), if_neg (fun x => hs (this.2 x.1))]; exact ih'
      · rw [if_neg (fun x => hd x.2), if_neg (fun x => hd x.2)]; exact ih'
theorem lastW_stop {fr0 : F} {S : Nat → Prop} [DecidablePred S] {t : Tmp} {k n : Nat} (hkn : k ≤ n) (h : ∀ j o, k ≤ j → j < n → l[j]? = some o → o.o.dst = some t → ¬ S j) :
    lastW l fr0 V S t n = lastW l fr0 V S t k := by
  induction n with
  | zero => have : k = 0 := by omega
            rw [this]
  | succ n ih =>
    by_cases e : k = n + 1
    · rw [e]
    · have ih' := ih (by omega) fun j o h1 h2 => h j o h1 (by omega)
      simp only [lastW]
      cases ho : l[n]? with
      | none => exact ih'
      | some o =>
        simp only
        rw [if_neg (fun x => h n o (by omega) (by omega) ho x.2 x.1)]
        exact ih'
end
end Go.Vam
