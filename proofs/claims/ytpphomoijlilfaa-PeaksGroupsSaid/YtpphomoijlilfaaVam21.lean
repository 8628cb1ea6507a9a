/- A region that draws its order: one more operation. -/
import Derived.Test.YtpphomoijlilfaaVam20
namespace Go.Vam
open Go
section
variable {F H : Type} [Store F Value] {l : List DOper} {D : Nat → DState F H} {V : Nat → Value} {S : Nat → Prop} {i : Nat}
theorem Fl.add {p B : Nat} {b : ABlk} (hn : ∀ B b, ¬ NewB l D V i B b) : Fl l D V (fun j => j = i ∨ S j) p B b ↔ Fl l D V S p B b := by
  constructor
  · rintro ⟨f, ⟨h1, h2⟩, h3⟩
    rcases h1 with x | x
    · subst x; exact absurd h3 (hn B b)
    · exact ⟨f, ⟨x, h2⟩, h3⟩
  · rintro ⟨f, ⟨h1, h2⟩, h3⟩
    exact ⟨f, ⟨.inr h1, h2⟩, h3⟩
end
section
variable {P : Program} {F H : Type} [Store F Value] [Store H ABlk] {cf : CallF H} {l : List DOper} {D : Nat → DState F H} {V : Nat → Value} {nt : Nat} {ops : Array Oper}
variable {ρ0 ρ : Rho} {s0 sL : AS H} {w0 w : World} {S : Nat → Prop} [DecidablePred S] {p : Nat} {a : Act} {i : Nat} {o : Oper} {d : DOper}
theorem Inv.quiet (hp : Plan P nt ops l) (hN : Nxt l ops S i o d) (h : Inv nt l D V ρ0 s0 w0 S p a w ρ sL) (hna : d.o.op.kind ≠ .act) (hnn : ∀ B b, ¬ NewB l D V i B b)
    {v' : Value} {w' : World} (q : Quiet w w') (hv : VR ρ (V i) v') : Inv nt l D V ρ0 s0 w0 (fun j => j = i ∨ S j) p (a.put o.dst v') w' ρ sL where
  size := by rw [Act.put_size]; exact h.size
  fr := fr_step hp hN h.size h.fr hv
  pl := h.pl
  acts := fun e he => by
    rw [← h.acts e he]
    constructor
    · rintro (x | x)
      · subst x
        obtain ⟨d', h1, h2⟩ := he
        rw [hN.hd] at h1; cases h1; exact absurd h2 hna
      · exact x
    · exact .inr
  nxt := h.nxt
  live := fun B b => by rw [Fl.add hnn]; exact h.live B b
  apart := fun B b hB => h.apart B b ((Fl.add hnn).1 hB)
  rep := h.rep.quiet q
  ext := h.ext.trans (Ext.quiet q)
  none := fun f o hf => h.none f o (fun hs => hf (.inr hs))
  big := h.big
theorem Inv.new (hp : Plan P nt ops l) (T : Trace cf l D V) (hN : Nxt l ops S i o d) (h : Inv nt l D V ρ0 s0 w0 S p a w ρ sL) (hs0 : s0.nxt = (D 0).nid) (hk : d.o.op.kind = .new)
    (hw : wantV (D i).fr d.o.guard = true) {b : ABlk} (hb : newV (D i).fr (D i).nid d.o.op = some (V i, b)) {obj : Obj} {L : Loc} {v' : Value} (hL : L.b = w.heap.size)
    (hv : VR (upd ρ (D i).nid L) (V i) v') (hbr : ∀ w' : World, w'.heap[L.b]? = some obj → BR (upd ρ (D i).nid L) L w' b) :
    ∃ ρ' sL', Inv nt l D V ρ0 s0 w0 (fun j => j = i ∨ S j) p (a.put o.dst v') (w.alloc obj) ρ' sL' := by
  have hnb : NewB l D V i (D i).nid b := ⟨d, hN.hd, hk, hw, rfl, hb⟩
  have hf := h.none i d hN.out hN.hd hk
  have hlt := hnb.lt T
  have hge := hnb.ge T
  have hnone : Store.get sL.h (D i).nid = Option.none := by
    cases hg : Store.get sL.h (D i).nid with
    | none => rfl
    | some x => obtain ⟨L', x, _⟩ := h.rep.blk _ x hg; rw [hf] at x; cases x
  have hnoD : Store.get (D p).s.h (D i).nid = Option.none := by
    cases hg : Store.get (D p).s.h (D i).nid with
    | none => rfl
    | some x => rw [(h.live _ x).2 (.inl hg)] at hnone; cases hnone
  have hheap : (w.alloc obj).heap = w.heap.push obj := rfl
  have hna : ¬ IsAct l i := by
    rintro ⟨d', h1, h2⟩
    rw [hN.hd] at h1; cases h1; rw [hk] at h2; cases h2
  have hnew := Rep.newAt (s' := ({ h := Store.put sL.h (D i).nid (some b), nxt := sL.nxt } : AS H)) (w' := w.alloc obj) (B := (D i).nid) (L := L) (b := b) h.rep hf
    (Nat.lt_of_lt_of_le hlt h.big) (Nat.le_refl _) (fun x => Store.get_put _ _ _ _) hL (by simp [hheap]) (fun k hk => by
      rw [hheap, Array.getElem?_push, if_neg (by omega)]) (hbr _ (by rw [hheap, hL]; simp)) rfl rfl rfl (newV_rw hb)
  have hsub := Sub.upd (ρ := ρ) L hf
  have hfl : ∀ B x, Fl l D V (fun j => j = i ∨ S j) p B x ↔ (Fl l D V S p B x ∨ (B = (D i).nid ∧ x = b)) := by
    intro B x
    constructor
    · rintro ⟨f, ⟨h1, h2⟩, h3⟩
      rcases h1 with y | y
      · subst y
        obtain ⟨o', g1, g2, g3, g4, g5⟩ := h3
        rw [hN.hd] at g1; cases g1
        rw [hb] at g5; cases g5
        exact .inr ⟨g4, rfl⟩
      · exact .inl ⟨f, ⟨y, h2⟩, h3⟩
    · rintro (⟨f, ⟨h1, h2⟩, h3⟩ | ⟨rfl, rfl⟩)
      · exact ⟨f, ⟨.inr h1, h2⟩, h3⟩
      · exact ⟨i, ⟨.inl rfl, fun e q g1 g2 g3 => hN.free' g2 ((h.acts e ⟨q, g2, g3⟩).2 g1)⟩, hnb⟩
  have hnofl : ∀ x, ¬ Fl l D V S p (D i).nid x := fun x hx => by
    rw [(h.live _ x).2 (.inr hx)] at hnone; cases hnone
  refine ⟨upd ρ (D i).nid L, ⟨Store.put sL.h (D i).nid (some b), sL.nxt⟩, ?_⟩
  refine ⟨by rw [Act.put_size]; exact h.size, fr_step hp hN h.size (fun t ht => (h.fr t ht).mono hsub) hv, h.pl, fun e he => ?_, h.nxt, fun B x => ?_, fun B x hB => ?_, hnew.1, ?_, fun f q hS hq hqk => ?_, h.big⟩
  · rw [← h.acts e he]
    constructor
    · rintro (x | x)
      · subst x; exact absurd he hna
      · exact x
    · exact .inr
  · rw [hfl]
    show Store.get (Store.put sL.h (D i).nid (some b)) B = some x ↔ _
    rw [Store.get_put]
    by_cases e : B = (D i).nid
    · rw [if_pos e, e, hnoD]
      constructor
      · intro y; cases y; exact .inr (.inr ⟨rfl, rfl⟩)
      · rintro (y | y | ⟨_, y⟩)
        · cases y
        · exact absurd y (hnofl x)
        · rw [y]
    · rw [if_neg e, h.live B x]
      constructor
      · rintro (y | y)
        · exact .inl y
        · exact .inr (.inl y)
      · rintro (y | y | ⟨y, _⟩)
        · exact .inl y
        · exact .inr y
        · exact absurd y e
  · rcases (hfl B x).1 hB with y | ⟨rfl, _⟩
    · exact h.apart B x y
    · exact hnoD
  · refine ⟨h.ext.nxt, fun B hB => ?_, h.ext.os, h.ext.tape, h.ext.output, ?_, fun k hk hu => ?_, fun B L' hB hL' => ?_, fun B cs1 hB => ?_⟩
    · rw [← h.ext.keep B hB]
      simp only [upd]
      rw [if_neg (by omega)]
    · have := h.ext.size
      rw [hheap, Array.size_push]; omega
    · have := h.ext.size
      rw [hheap, Array.getElem?_push, if_neg (by omega)]
      exact h.ext.frame k hk hu
    · simp only [upd] at hL'
      obtain ⟨kB, hB, hkB⟩ := hB
      simp only [Store.get_put] at hB
      by_cases e : B = (D i).nid
      · rw [if_pos e] at hL'; cases hL'
        have := h.ext.size
        left; omega
      · rw [if_neg e] at hL' hB
        exact h.ext.img B L' ⟨kB, hB, hkB⟩ hL'
    · simp only [Store.get_put] at hB
      split at hB
      · cases hB
        have := newV_rw hb
        cases this
      · exact h.ext.ros B cs1 hB
  · have hfi : f ≠ i := fun e => hS (.inl e)
    have hfl' : f < l.length := (List.getElem?_eq_some_iff.1 hq).1
    have hil := hN.lt
    have hne : (D f).nid ≠ (D i).nid := by
      rcases Nat.lt_trichotomy f i with x | x | x
      · have := T.nid_lt ⟨q, hq, hqk⟩ x (by omega); omega
      · exact absurd x hfi
      · have := T.nid_lt ⟨d, hN.hd, hk⟩ x (by omega); omega
    simp only [upd]
    rw [if_neg hne]
    exact h.none f q (fun hs => hS (.inr hs)) hq hqk
theorem Inv.join (hp : Plan P nt ops l) (T : Trace cf l D V) (hd0 : (D 0).flt = []) (hN : Nxt l ops S i o d) (h : Inv nt l D V ρ0 s0 w0 S i a w ρ sL) {B : Nat} {b : ABlk}
    (hB : Store.get (joinF d.pre (D i).flt (D i).s.h).1 B = some b) : Store.get sL.h B = some b ∧ ((∃ f, NewB l D V f B b ∧ d.pre.testBit f = true) ∨ Store.get (D i).s.h B = some b) := by
  rcases joinF_get _ _ _ _ _ hB with ⟨f, h1, h2⟩ | ⟨h1, _⟩
  · have := (T.waits hd0 i (Nat.le_of_lt hN.lt) f B b).1 h1
    obtain ⟨g1, g2, g3⟩ := this
    refine ⟨(h.live B b).2 (.inr ⟨f, ⟨hN.pre f h2, fun e q k1 k2 k3 => ?_⟩, g2⟩), .inl ⟨f, g2, h2⟩⟩
    rcases Nat.lt_or_ge f e with x | x
    · exact g3 e q x k1 k2 k3
    · cases hb : q.pre.testBit f with
      | false => rfl
      | true => have := hp.lt e q f k2 hb; omega
  · exact ⟨(h.live B b).2 (.inl h1), .inr h1⟩
theorem Inv.at (hp : Plan P nt ops l) (T : Trace cf l D V) (hN : Nxt l ops S i o d) (h : Inv nt l D V ρ0 s0 w0 S p a w ρ sL) (hk : d.o.op.kind = .act) : Inv nt l D V ρ0 s0 w0 S i a w ρ sL := by
  have hA : IsAct l i := ⟨d, hN.hd, hk⟩
  have hpi : p ≤ i := by
    rcases Nat.lt_or_ge i p with x | x
    · exact absurd ((h.acts i hA).2 x) hN.out
    · exact x
  refine h.shift T hpi (Nat.le_of_lt hN.lt) fun e h1 h2 he => ?_
  have := (h.acts e he).1 (hN.pre e (T.acts_pre hp i d hN.hd hk e h2 he))
  omega
theorem Inv.act (hp : Plan P nt ops l) (T : Trace cf l D V) (hd0 : (D 0).flt = []) (hN : Nxt l ops S i o d) (h : Inv nt l D V ρ0 s0 w0 S i a w ρ sL) (hk : d.o.op.kind = .act)
    {ρ' : Rho} {w' : World} {v' : Value} (hR : Rep ρ' (D (i + 1)).s w') (hE : Ext ρ { (D i).s with h := (joinF d.pre (D i).flt (D i).s.h).1 } w ρ' (D (i + 1)).s w') (hv : VR ρ' (V i) v') :
    ∃ sL', Inv nt l D V ρ0 s0 w0 (fun j => j = i ∨ S j) (i + 1) (a.put o.dst v') w' ρ' sL' := by
  have hjoin := fun B b hB => h.join hp T hd0 hN (B := B) (b := b) hB
  have hnn : ∀ B b, ¬ NewB l D V i B b := fun B b hb => by
    obtain ⟨o', g1, g2, _⟩ := hb
    rw [hN.hd] at g1; cases g1; rw [hk] at g2; cases g2
  obtain ⟨hh, hput⟩ := store_union (Fl l D V (fun j => j = i ∨ S j) (i + 1)) (fun B b b' => Fl.fun T) (D l.length).nid (D (i + 1)).s.h
  have hfllt : ∀ B b, Fl l D V (fun j => j = i ∨ S j) (i + 1) B b → B < (D l.length).nid := fun B b hb => by
    obtain ⟨f, _, hb⟩ := hb; exact hb.lt T
  have hold : ∀ B b, Fl l D V (fun j => j = i ∨ S j) (i + 1) B b → Store.get sL.h B = some b ∧ Store.get (joinF d.pre (D i).flt (D i).s.h).1 B = Option.none := by
    intro B b hB
    have hB' := (Fl.add hnn).1 hB
    obtain ⟨f, ⟨h1, h2⟩, h3⟩ := hB'
    have hfl : Fl l D V S i B b := ⟨f, ⟨h1, fun e q k => h2 e q (by omega)⟩, h3⟩
    refine ⟨(h.live B b).2 (.inr hfl), ?_⟩
    cases hg : Store.get (joinF d.pre (D i).flt (D i).s.h).1 B with
    | none => rfl
    | some x =>
      rcases (hjoin B x hg).2 with ⟨f', k1, k2⟩ | k
      · obtain ⟨rfl, rfl⟩ := k1.unique T h3
        have := h2 i d (by omega) hN.hd hk
        rw [k2] at this; cases this
      · rw [h.apart B b hfl] at k; cases k
  have hkeep : ∀ B, B < (D l.length).nid → ρ' B = ρ B := fun B hB => hE.keep B (by
    have h1 := h.big
    have h2 := h.nxt
    show B < (D i).s.nxt
    omega)
  have hsub : Sub ρ ρ' := fun B L hB => by
    rw [hE.keep B]; exact hB
    show B < (D i).s.nxt
    rw [← h.nxt]
    rcases Nat.lt_or_ge B sL.nxt with x | x
    · exact x
    · rw [h.rep.fresh B x] at hB; cases hB
  have hflrw : ∀ B b, Fl l D V (fun j => j = i ∨ S j) (i + 1) B b → b.rw = true := fun B b hB => by
    obtain ⟨f, _, o', _, _, _, _, g5⟩ := hB
    exact newV_rw g5
  have hfloat : ∀ B b, Fl l D V (fun j => j = i ∨ S j) (i + 1) B b → ∃ L, ρ B = some L ∧ ρ' B = some L ∧ BR ρ L w b ∧ L.b < w.heap.size ∧
      ∀ B1 L1, (Store.get (joinF d.pre (D i).flt (D i).s.h).1 B1).isSome → ρ B1 = some L1 → L1.b ≠ L.b := by
    intro B b hB
    obtain ⟨h1, h2⟩ := hold B b hB
    obtain ⟨L, h3, h4⟩ := h.rep.blk B b h1
    refine ⟨L, h3, by rw [hkeep B (hfllt B b hB)]; exact h3, h4, h.rep.lt B L h3, fun B1 L1 k1 k2 k3 => ?_⟩
    obtain ⟨x, hx⟩ := Option.isSome_iff_exists.1 k1
    have := h.rep.inj' h1 (hflrw B b hB) (hjoin B1 x hx).1 h3 k2 k3
    rw [this, h2] at k1; cases k1
  have hapart : ∀ B b, Fl l D V (fun j => j = i ∨ S j) (i + 1) B b → Store.get (D (i + 1)).s.h B = Option.none := by
    intro B b hB
    obtain ⟨L, h1, h2, _, h4, h5⟩ := hfloat B b hB
    cases hg : Store.get (D (i + 1)).s.h B with
    | none => rfl
    | some x =>
      cases hx : x.rw with
      | true =>
        rcases hE.img B L ⟨x, hg, hx⟩ h2 with y | ⟨B0, L0, ⟨k0, k1, _⟩, k2, k3⟩
        · omega
        · exact absurd k3 (h5 B0 L0 (by rw [k1]; rfl) k2)
      | false =>
        cases x with
        | ro cs => have := hE.ros B cs hg; rw [(hold B b hB).2] at this; cases this
        | _ => cases hx
  have hlive : ∀ B b, Store.get hh B = some b ↔ (Store.get (D (i + 1)).s.h B = some b ∨ Fl l D V (fun j => j = i ∨ S j) (i + 1) B b) := by
    intro B b
    rw [hput]
    constructor
    · rintro (⟨_, x⟩ | ⟨_, x⟩)
      · exact .inr x
      · exact .inl x
    · rintro (x | x)
      · exact .inr ⟨fun b' _ hb => (by rw [hapart B b' hb] at x; cases x), x⟩
      · exact .inl ⟨hfllt B b x, x⟩
  refine ⟨⟨hh, (D (i + 1)).s.nxt⟩, ⟨by rw [Act.put_size]; exact h.size, fr_step hp hN h.size (fun t ht => (h.fr t ht).mono hsub) hv, hN.lt, fun e he => ?_, rfl, hlive, hapart, ?_, ?_, fun f q hS hq hqk => ?_, ?_⟩⟩
  · constructor
    · rintro (x | x)
      · omega
      · have := (h.acts e he).1 x; omega
    · intro x
      by_cases e' : e = i
      · exact .inl e'
      · exact .inr ((h.acts e he).2 (by omega))
  · refine ⟨fun B b hB => ?_, fun B B' L L' hB hB' hL hL' e => ?_, hR.fresh, hR.lt⟩
    · rcases (hlive B b).1 hB with x | x
      · exact hR.blk B b x
      · obtain ⟨L, h1, h2, h3, h4, h5⟩ := hfloat B b x
        exact ⟨L, h2, (h3.of_block (hE.frame L.b h4 fun B1 L1 hB1 => h5 B1 L1 (by obtain ⟨k, hk, _⟩ := hB1; rw [hk]; rfl))).mono hsub⟩
    · obtain ⟨b, hb, hbr⟩ := hB
      obtain ⟨b', hb'⟩ := Option.isSome_iff_exists.1 hB'
      have cross : ∀ {B B' : Nat} {L L' : Loc} {b b' : ABlk}, Store.get (D (i + 1)).s.h B = some b → Fl l D V (fun j => j = i ∨ S j) (i + 1) B' b' → ρ' B = some L → ρ' B' = some L' → L.b = L'.b → False := by
        intro B B' L L' b b' x y hL hL' e
        obtain ⟨L1, h1, h2, h3, h4, h5⟩ := hfloat B' b' y
        rw [h2] at hL'; cases hL'
        cases hbx : b.rw with
        | true =>
          rcases hE.img B L ⟨b, x, hbx⟩ hL with z | ⟨B0, L0, ⟨k0, k1, _⟩, k2, k3⟩
          · omega
          · exact h5 B0 L0 (by rw [k1]; rfl) k2 (by omega)
        | false =>
          cases b with
          | ro cs =>
            have hro := hE.ros B cs x
            obtain ⟨L2, g1, _⟩ := h.rep.blk B _ (hjoin B _ hro).1
            have := hsub B L2 g1
            rw [hL] at this; cases this
            exact h5 B L (by rw [hro]; rfl) g1 e
          | _ => cases hbx
      rcases (hlive B b).1 hb with x | x
      · rcases (hlive B' b').1 hb' with y | y
        · exact hR.inj B B' L L' ⟨b, x, hbr⟩ (by rw [y]; rfl) hL hL' e
        · exact (cross x y hL hL' e).elim
      · rcases (hlive B' b').1 hb' with y | y
        · exact (cross y x hL' hL e.symm).elim
        · rw [hkeep B (hfllt B b x)] at hL
          rw [hkeep B' (hfllt B' b' y)] at hL'
          exact h.rep.inj B B' L L' ⟨b, (hold B b x).1, hbr⟩ (by rw [(hold B' b' y).1]; rfl) hL hL' e
  · refine h.ext.trans ⟨?_, fun B hB => hE.keep B (by rw [h.nxt] at hB; exact hB), hE.os, hE.tape, hE.output, hE.size, fun k hk hu => hE.frame k hk fun B L hB hL => ?_, fun B L hB hL => ?_, fun B cs1 hB => ?_⟩
    · have := hE.nxt
      rw [h.nxt]; exact this
    · obtain ⟨x, hx, hxr⟩ := hB
      exact hu B L ⟨x, (hjoin B x hx).1, hxr⟩ hL
    · obtain ⟨b, hb, hbr⟩ := hB
      rcases (hlive B b).1 hb with x | x
      · rcases hE.img B L ⟨b, x, hbr⟩ hL with y | ⟨B0, L0, ⟨z, hz, hzr⟩, k2, k3⟩
        · exact .inl y
        · exact .inr ⟨B0, L0, ⟨z, (hjoin B0 z hz).1, hzr⟩, k2, k3⟩
      · rw [hkeep B (hfllt B b x)] at hL
        exact .inr ⟨B, L, ⟨b, (hold B b x).1, hbr⟩, hL, rfl⟩
    · rcases (hlive B _).1 hB with x | x
      · exact (hjoin B _ (hE.ros B cs1 x)).1
      · have := hflrw B _ x; cases this
  · have hflt : f < l.length := (List.getElem?_eq_some_iff.1 hq).1
    have := T.nid_lt ⟨q, hq, hqk⟩ hflt (Nat.le_refl _)
    rw [hkeep _ this]
    exact h.none f q (fun hs => hS (.inr hs)) hq hqk
  · have h1 := hE.nxt
    have h2 := h.big
    have h3 := h.nxt
    have h4 : (D i).s.nxt ≤ (D (i + 1)).s.nxt := h1
    show (D l.length).nid ≤ (D (i + 1)).s.nxt
    omega
end
end Go.Vam
