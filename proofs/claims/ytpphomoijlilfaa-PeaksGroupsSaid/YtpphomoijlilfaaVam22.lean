/- A region that draws its order: the whole of it. -/
import Derived.Test.YtpphomoijlilfaaVam21
namespace Go.Vam
open Go
section
variable {P : Program} {F H : Type} [Store F Value] [Store H ABlk] {cf : CallF H} {l : List DOper} {D : Nat → DState F H} {V : Nat → Value} {nt : Nat} {ops : Array Oper}
variable {ρ0 ρ : Rho} {s0 sL : AS H} {w0 w : World} {S : Nat → Prop} [DecidablePred S] {p : Nat} {a : Act} {i : Nat} {o : Oper} {d : DOper}
theorem beqV_eq {x y : Value} (h : beqV x y = true) : x = y := by
  cases x <;> cases y <;> simp [beqV] at h <;> try (simp_all; done)
  rename_i a b
  obtain ⟨a⟩ := a; obtain ⟨b⟩ := b
  simp at h
  simp [h]
theorem all_zip_eq {xs ys : List Value} (hl : xs.length = ys.length) (h : ((xs.zip ys).all fun p => beqV p.1 p.2) = true) : xs = ys := by
  induction xs generalizing ys with
  | nil => cases ys; rfl; simp at hl
  | cons x xs ih =>
    cases ys with
    | nil => simp at hl
    | cons y ys =>
      simp only [List.zip_cons_cons, List.all_cons, Bool.and_eq_true] at h
      rw [beqV_eq h.1, ih (by simpa using hl) h.2]
theorem sameV_eq {x y : Value} (h : sameV x y = true) : x = y := by
  unfold sameV at h
  split at h
  · rename_i xs ys
    simp only [Bool.and_eq_true, beq_iff_eq] at h
    have := all_zip_eq (by simpa using h.1) h.2
    rw [show xs = ys from Array.ext' this]
  · rename_i xs ys
    simp only [Bool.and_eq_true, beq_iff_eq] at h
    have := all_zip_eq (by simpa using h.1) h.2
    rw [show xs = ys from Array.ext' this]
  · exact beqV_eq h
theorem stillV_eq {s : AS H} {k : Nat} {fr : F} {op : AOp} {v : Value} (h : stillV s ⟨k, fr, op, v⟩ = true) : readV fr s op = some v := by
  unfold stillV at h
  simp only at h
  split at h
  · rename_i u hu; rw [hu, sameV_eq h]
  · cases h
theorem read_now (T : Trace cf l D V) (hN : Nxt l ops S i o d) (h : Inv nt l D V ρ0 s0 w0 S p a w ρ sL) (hk : d.o.op.kind = .rd) (hw : wantV (D i).fr d.o.guard = true) :
    readV (D i).fr (D p).s d.o.op = some (V i) := by
  obtain ⟨h1, h2, _⟩ := (T i d hN.hd).rd hk hw
  have hil := hN.lt
  have hpl := h.pl
  rcases Nat.lt_or_ge p i with hpi | hpi
  · rcases first_act l p i with hno | ⟨e, g1, g2, g3, g4⟩
    · rw [← T.s_const p i (by omega) (by omega) hno]; exact h1
    · rw [← T.s_const p e g1 (by omega) g4]
      refine stillV_eq (T.past i (by omega) _ _ _ _ h2 e g2 g3 fun e' k1 k2 k3 => hN.free fun hs => ?_)
      have := (h.acts e' k3).1 hs; omega
  · rcases last_act l i p with hno | ⟨e, g1, g2, g3, g4⟩
    · rw [T.s_const i p hpi hpl hno]; exact h1
    · rw [T.s_const (e + 1) p (by omega) hpl fun e' k1 k2 => g4 e' (by omega) k2]
      obtain ⟨q, hq, hqk⟩ := id g3
      have hne : i ≠ e := fun x => by
        rw [← x, hN.hd] at hq; cases hq; rw [hk] at hqk; cases hqk
      refine stillV_eq (T.behind hN.hd hk hw (e := e) (by omega) hq hqk fun e' q' k1 k2 k3 k4 => hN.free' k3 ?_)
      exact (h.acts e' ⟨q', k3, k4⟩).2 (by omega)
theorem draw_step (hX : ExtOk P) (hcf : CfOk P cf) (hp : Plan P nt ops l) (T : Trace cf l D V) (hd0 : (D 0).flt = []) (hs0 : s0.nxt = (D 0).nid) (hN : Nxt l ops S i o d) (h : Inv nt l D V ρ0 s0 w0 S p a w ρ sL) :
    (wantV (D i).fr d.o.guard = true → UponR P (fun v' w' => ∃ p' ρ' sL', Inv nt l D V ρ0 s0 w0 (fun j => j = i ∨ S j) p' (a.put o.dst v') w' ρ' sL') ((execOp a.eval o).run P w)) ∧
    (wantV (D i).fr d.o.guard = false → ∃ p' ρ' sL', Inv nt l D V ρ0 s0 w0 (fun j => j = i ∨ S j) p' (a.put o.dst undef) w ρ' sL') := by
  have hok := hp.ok i o d hN.ho hN.hd
  have hF := sel_fr hp T hN h
  have hex := sel_exec (nt := nt) (a := a) hp hN
  have hops := sel_ops hp hN (D i).fr
  have hst := T i d hN.hd
  have hun : d.o.op.kind ≠ .act → wantV (D i).fr d.o.guard = false → ∃ p' ρ' sL', Inv nt l D V ρ0 s0 w0 (fun j => j = i ∨ S j) p' (a.put o.dst undef) w ρ' sL' := fun hk hw => by
    refine ⟨p, ρ, sL, h.quiet hp hN hk (fun B b hb => ?_) (.refl w) (by rw [hst.unw hw]; exact VR.undef)⟩
    obtain ⟨o', g1, g2, g3, _⟩ := hb
    rw [hN.hd] at g1; cases g1; rw [hw] at g3; cases g3
  have hnn : d.o.op.kind ≠ .new → ∀ B b, ¬ NewB l D V i B b := fun hk B b hb => by
    obtain ⟨o', g1, g2, _⟩ := hb
    rw [hN.hd] at g1; cases g1; exact hk g2
  have hnext : d.o.op.kind ≠ .act → d.o.op.kind ≠ .new → NextV P ρ w (execOp a.eval o) (V i) → UponR P (fun v' w' => ∃ p' ρ' sL', Inv nt l D V ρ0 s0 w0 (fun j => j = i ∨ S j) p' (a.put o.dst v') w' ρ' sL') ((execOp a.eval o).run P w) := by
    rintro hk hk' ⟨v', w', g1, g2, g3⟩
    rw [g1]
    exact ⟨p, ρ, sL, h.quiet hp hN hk (hnn hk') g2 g3⟩
  cases hk : d.o.op.kind with
  | pur =>
    refine ⟨fun hw => hnext (by simp [hk]) (by simp [hk]) ?_, hun (by simp [hk])⟩
    rw [← hex]
    refine pure_sound hok.op hk hok.opr hF ?_
    rw [pureV_congr _ hops]
    exact hst.pur hk hw
  | rd =>
    refine ⟨fun hw => hnext (by simp [hk]) (by simp [hk]) ?_, hun (by simp [hk])⟩
    rw [← hex]
    have hR : Rep ρ (D p).s w := h.rep.weaken (by rw [h.nxt]; exact Nat.le_refl _) fun B b hB => (h.live B b).2 (.inl hB)
    refine read_sound hR hok.op hk hok.opr hF ?_
    rw [readV_congr _ hops]
    exact read_now T hN h hk hw
  | new =>
    refine ⟨fun hw => ?_, hun (by simp [hk])⟩
    obtain ⟨b, hb, _⟩ := hst.new hk hw
    obtain ⟨obj, L, v', g1, g2, g3, g4⟩ := new_sound (w := w) (h.none i d hN.out hN.hd hk) hok.op hk hok.opr hF (by rw [newV_congr _ hops]; exact hb)
    rw [hex] at g1
    rw [g1]
    obtain ⟨ρ', sL', hi⟩ := h.new hp T hN hs0 hk hw hb g2 g3 g4
    exact ⟨p, ρ', sL', hi⟩
  | act =>
    have h' := h.at hp T hN hk
    obtain ⟨_, _, _, _, k5, k6, _⟩ := hst.act hk
    have hR1 : Rep ρ { (D i).s with h := (joinF d.pre (D i).flt (D i).s.h).1 } w := h'.rep.weaken (by rw [h'.nxt]; exact Nat.le_refl _) fun B b hB => (h'.join hp T hd0 hN hB).1
    refine ⟨fun hw => ?_, fun hw => ?_⟩
    · have hact := act_sound hX hcf hR1 hok.op hk hok.opr hF (v := V i) (s' := (D (i + 1)).s) (by rw [actV_congr _ hops]; exact k5 hw)
      unfold StepWp at hact
      rw [hex] at hact
      refine hact _ fun ρ' w' v' g1 g2 g3 => ?_
      obtain ⟨sL', hi⟩ := h'.act hp T hd0 hN hk g2 g3 g1
      exact ⟨i + 1, ρ', sL', hi⟩
    · have hs := k6 hw
      obtain ⟨sL', hi⟩ := h'.act hp T hd0 hN hk (ρ' := ρ) (w' := w) (v' := undef) (by rw [hs]; exact hR1) (by rw [hs]; exact .refl _ _ _) (by rw [hst.unw hw]; exact VR.undef)
      exact ⟨i + 1, ρ, sL', hi⟩
theorem Inv.congr {S' : Nat → Prop} [DecidablePred S'] (hS : ∀ j, S j ↔ S' j) (h : Inv nt l D V ρ0 s0 w0 S p a w ρ sL) : Inv nt l D V ρ0 s0 w0 S' p a w ρ sL := by
  have hfl : ∀ B b, Fl l D V S' p B b ↔ Fl l D V S p B b := fun B b => by
    constructor
    · rintro ⟨f, ⟨h1, h2⟩, h3⟩; exact ⟨f, ⟨(hS f).2 h1, h2⟩, h3⟩
    · rintro ⟨f, ⟨h1, h2⟩, h3⟩; exact ⟨f, ⟨(hS f).1 h1, h2⟩, h3⟩
  exact ⟨h.size, fun t ht => by rw [← lastW_congr fun j _ _ _ _ => hS j]; exact h.fr t ht, h.pl, fun e he => (hS e).symm.trans (h.acts e he), h.nxt,
    fun B b => by rw [hfl]; exact h.live B b, fun B b hB => h.apart B b ((hfl B b).1 hB), h.rep, h.ext, fun f o hf => h.none f o (fun x => hf ((hS f).1 x)), h.big⟩
def left (L : Array Bool) : Nat → Nat
  | 0 => 0
  | k + 1 => left L k + if L.getD k false then 0 else 1
theorem left_set {L : Array Bool} {i : Nat} (hi : i < L.size) (hL : L.getD i false = false) : ∀ k, left (L.setIfInBounds i true) k + (if i < k then 1 else 0) = left L k := by
  intro k
  induction k with
  | zero => simp [left]
  | succ k ih =>
    simp only [left]
    by_cases e : i = k
    · subst e
      have h1 : (L.setIfInBounds i true).getD i false = true := by simp [hi]
      rw [h1, hL]
      simp at ih ⊢
      omega
    · have h1 : (L.setIfInBounds i true).getD k false = L.getD k false := by simp [Array.getElem?_setIfInBounds_ne e]
      rw [h1]
      by_cases hk : i < k
      · have e2 : (if i < k + 1 then 1 else 0 : Nat) = 1 := if_pos (by omega)
        rw [if_pos hk] at ih; rw [e2]; omega
      · have e2 : (if i < k + 1 then 1 else 0 : Nat) = 0 := if_neg (by omega)
        rw [if_neg hk] at ih; rw [e2]; omega
theorem left_zero {L : Array Bool} : ∀ k, left L k = 0 → ∀ j, j < k → L.getD j false = true := by
  intro k
  induction k with
  | zero => intro _ j hj; omega
  | succ k ih =>
    intro h j hj
    simp only [left] at h
    by_cases e : j = k
    · subst e
      cases hh : L.getD j false with
      | true => rfl
      | false => rw [hh] at h; simp at h
    · exact ih (by omega) j (by omega)
theorem wpOp_of_upon {Q : Exit → Act → World → Prop} {K : Act → World → Prop} (ho : ops[i]? = some o)
    (h1 : Region.wanted o (yielded ops a.tmps) = true → UponR P (fun v' w' => K (a.put o.dst v') w') ((execOp a.eval o).run P w))
    (h2 : Region.wanted o (yielded ops a.tmps) = false → K (a.put o.dst undef) w) : wpOp P ops Q i K a w := by
  unfold wpOp
  simp only [ho]
  cases hw : Region.wanted o (yielded ops a.tmps) with
  | true => rw [if_pos rfl]; exact .inl (wp_of_upon (h1 hw))
  | false => rw [if_neg (by simp)]; exact h2 hw
theorem UponR.mono {R R' : Value → World → Prop} (h : ∀ v w, R v w → R' v w) {r : Result Next} (hr : UponR P R r) : UponR P R' r := by
  cases r with
  | ok n w' =>
    cases n <;> simp only [UponR] at hr ⊢ <;> first | exact h _ _ hr | skip
    exact hr.mono fun e w'' he => let ⟨v, h1, h2⟩ := he; ⟨v, h1, h _ _ h2⟩
  | halt x w' => simp only [UponR] at hr
theorem defers_go {Q : Exit → Act → World → Prop} (hX : ExtOk P) (hcf : CfOk P cf) (hp : Plan P nt ops l) (T : Trace cf l D V) (hd0 : (D 0).flt = []) (hs0 : s0.nxt = (D 0).nid) {df : List Deferred}
    (hQ : ∀ p ρ sL a w, Inv nt l D V ρ0 s0 w0 (fun j => j < l.length) p a w ρ sL → a.defers = df → Q .normal a w) :
    ∀ (fuel : Nat) (L : Array Bool), L.size = ops.size → left L ops.size ≤ fuel → (∀ j q k, l[j]? = some q → L.getD j false = true → q.pre.testBit k = true → L.getD k false = true) →
    ∀ (p : Nat) (ρ : Rho) (sL : AS H) (a : Act) (w : World), Inv nt l D V ρ0 s0 w0 (fun j => L.getD j false = true) p a w ρ sL → a.defers = df → wpAny P .any ops Q fuel L a w := by
  intro fuel
  induction fuel with
  | zero =>
    intro L hL hfu hcl p ρ sL a w hI hdf
    have hall := left_zero ops.size (by omega : left L ops.size = 0)
    refine ⟨?_, hQ p ρ sL a w (hI.congr fun j => ⟨fun hj => ?_, fun hj => hall j (by rw [← hp.len]; exact hj)⟩) hdf⟩
    · unfold Region.ready
      rw [List.filter_eq_nil_iff]
      intro j hj
      simp at hj
      have := hall j hj
      have : L.getD j true = true := by simp [Array.getD, hL, hj] at this ⊢; exact this
      simp only [this, Bool.not_true, Bool.false_and, Bool.false_eq_true, not_false_eq_true]
    · rw [hp.len]
      rcases Nat.lt_or_ge j L.size with x | x
      · omega
      · simp [Array.getD, show ¬ j < L.size by omega] at hj
  | succ fuel ih =>
    intro L hL hfu hcl p ρ sL a w hI hdf
    refine ⟨fun hnil => ?_, fun j hj => ?_⟩
    ·
      have hall : ∀ j, j < ops.size → L.getD j false = true := by
        intro j
        induction j using Nat.strongRecOn with
        | ind j ihj =>
          intro hj
          cases hlj : L.getD j false with
          | true => rfl
          | false =>
            have hmem : j ∈ Region.ready .any ops L := by
              unfold Region.ready
              rw [List.mem_filter]
              refine ⟨by simpa using hj, ?_⟩
              have h1 : L.getD j true = false := by simp [Array.getD, hL, hj] at hlj ⊢; exact hlj
              have ho : ops[j]? = some ops[j] := by simp [hj]
              rw [h1, ho]
              simp only [Bool.not_false, Option.map_some, Option.getD_some, Bool.true_and]
              rw [Array.all_eq_true_iff_forall_mem]
              intro e he
              cases hb : Region.binds .any e with
              | false => rfl
              | true =>
                have := hp.edge j _ e ho he hb
                rw [ihj e.on this (by omega)]; rfl
            rw [hnil] at hmem; cases hmem
      refine hQ p ρ sL a w (hI.congr fun j => ⟨fun hj => ?_, fun hj => hall j (by rw [← hp.len]; exact hj)⟩) hdf
      rw [hp.len]
      rcases Nat.lt_or_ge j L.size with x | x
      · omega
      · simp [Array.getD, show ¬ j < L.size by omega] at hj
    · unfold Region.ready at hj
      rw [List.mem_filter] at hj
      obtain ⟨hj1, hj2⟩ := hj
      have hj1 : j < ops.size := by simpa using hj1
      have ho : ops[j]? = some ops[j] := by simp [hj1]
      obtain ⟨d, hd⟩ : ∃ d, l[j]? = some d := ⟨_, List.getElem?_eq_getElem (by rw [hp.len]; exact hj1)⟩
      rw [ho] at hj2
      simp only [Option.map_some, Option.getD_some, Bool.and_eq_true, Bool.not_eq_true'] at hj2
      obtain ⟨h1, h2⟩ := hj2
      have hnot : L.getD j false = false := by simp [Array.getD, hL, hj1] at h1 ⊢; exact h1
      rw [Array.all_eq_true_iff_forall_mem] at h2
      have hN : Nxt l ops (fun j => L.getD j false = true) j ops[j] d := by
        refine ⟨ho, hd, by simp [hnot], fun k hk => ?_, fun j q k hq hs hk => hcl j q k hq hs hk⟩
        obtain ⟨e, he, hb, hor⟩ := hp.why j _ d k ho hd hk
        have hon := h2 e he
        rw [hb] at hon
        simp only [Bool.not_true, Bool.false_or] at hon
        rcases hor with rfl | ⟨d', k1, k2⟩
        · exact hon
        · exact hcl e.on d' k k1 hon k2
      have hset : ∀ k, (L.setIfInBounds j true).getD k false = true ↔ (k = j ∨ L.getD k false = true) := by
        intro k
        by_cases e : j = k
        · subst e; simp [hL, hj1]
        · simp only [Array.getD_eq_getD_getElem?, Array.getElem?_setIfInBounds_ne e]
          constructor
          · exact .inr
          · rintro (x | x)
            · exact absurd x.symm e
            · exact x
      have hleft := left_set (L := L) (i := j) (by omega) hnot ops.size
      rw [if_pos hj1] at hleft
      have hcl' : ∀ j' q k, l[j']? = some q → (L.setIfInBounds j true).getD j' false = true → q.pre.testBit k = true → (L.setIfInBounds j true).getD k false = true := by
        intro j' q k hq hs hk
        rw [hset]
        rcases (hset j').1 hs with x | x
        · rw [x, hd] at hq; cases hq
          exact .inr (hN.pre k hk)
        · exact .inr (hcl j' q k hq x hk)
      have hcont : ∀ v' w' p' ρ' sL', Inv nt l D V ρ0 s0 w0 (fun k => k = j ∨ L.getD k false = true) p' (a.put (ops[j]).dst v') w' ρ' sL' → wpAny P .any ops Q fuel (L.setIfInBounds j true) (a.put (ops[j]).dst v') w' := by
        intro v' w' p' ρ' sL' hi
        refine ih _ (by simpa using hL) (by omega) hcl' p' ρ' sL' _ w' (hi.congr fun k => (hset k).symm) ?_
        rw [Act.put_defers', hdf]
      have hstep := draw_step hX hcf hp T hd0 hs0 hN hI
      have hwant := sel_want hp T hN hI
      refine wpOp_of_upon ho (fun hw => ?_) (fun hw => ?_)
      · rw [hwant] at hw
        exact (hstep.1 hw).mono fun v' w' ⟨p', ρ', sL', hi⟩ => hcont v' w' p' ρ' sL' hi
      · rw [hwant] at hw
        obtain ⟨p', ρ', sL', hi⟩ := hstep.2 hw
        exact hcont undef w p' ρ' sL' hi
theorem evDraw_sound (hX : ExtOk P) (hcf : CfOk P cf) (hm : P.follows .mixedOrders = true) (hp : Plan P nt ops l) {id : Nat} {Q : Exit → Act → World → Prop} {fr fr' : F} {s s' : AS H}
    (hF : FrR ρ nt fr a) (hR : Rep ρ s w) (he : evDraw cf l fr s = some (fr', s'))
    (hQ : ∀ ρ' a' w', FrR ρ' nt fr' a' → Rep ρ' s' w' → Ext ρ s w ρ' s' w' → a'.defers = a.defers → Q .normal a' w') : (Code.region id ops true).wp P Q a w := by
  unfold evDraw at he
  split at he
  · rename_i r hr
    cases he
    obtain ⟨D, V, h0, hn, T⟩ := trace_of hr
    have hcnt := countNew_eq T
    refine wp_region_any hm ?_
    have hd0 : (D 0).flt = [] := by rw [h0]
    have hD0s : (D 0).s = { s with nxt := s.nxt + countNew l } := by rw [h0]
    have hD0n : (D 0).nid = s.nxt := by rw [h0]
    have hD0f : (D 0).fr = fr := by rw [h0]
    have hrep : ∀ k, (Array.replicate ops.size false).getD k false = false := fun k => by
      simp [Array.getD, Array.getElem_replicate]
    have q : Quiet w { w with drawn := w.drawn + 1 } := ⟨rfl, rfl, rfl, rfl⟩
    refine defers_go (D := D) (V := V) (s0 := s) (w0 := w) (ρ0 := ρ) (df := a.defers) hX hcf hp T hd0 hD0n.symm ?_ ops.size _ (by simp) ?_ (fun j q k _ hs => by rw [hrep] at hs; cases hs) 0 ρ (D 0).s a _ ?_ rfl
    · intro p ρ' sL a' w' hI hdf
      have hpn := hI.shift T (p' := l.length) hI.pl (Nat.le_refl _) fun e h1 h2 he => by
        have := (hI.acts e he).1 h2; omega
      have hget : ∀ B b, Store.get (joinAll r.flt r.s.h) B = some b → Store.get sL.h B = some b := by
        intro B b hB
        rcases joinAll_get _ _ _ _ hB with ⟨f, h1⟩ | ⟨h1, _⟩
        · rw [← hn] at h1
          obtain ⟨g1, g2, g3⟩ := (T.waits hd0 l.length (Nat.le_refl _) f B b).1 h1
          refine (hpn.live B b).2 (.inr ⟨f, ⟨g1, fun e q k1 k2 k3 => ?_⟩, g2⟩)
          rcases Nat.lt_or_ge f e with x | x
          · exact g3 e q x k1 k2 k3
          · cases hb : q.pre.testBit f with
            | false => rfl
            | true => have := hp.lt e q f k2 hb; omega
        · exact (hpn.live B b).2 (.inl (by rw [hn]; exact h1))
      have hnx : r.s.nxt = sL.nxt := by rw [hpn.nxt, hn]
      refine hQ ρ' a' w' ⟨hI.size, fun t ht => ?_⟩ (hI.rep.weaken (by show sL.nxt ≤ r.s.nxt; omega) hget) ?_ hdf
      · have := hI.fr t ht
        rw [lastW_congr (S' := fun _ => True) fun j _ hj _ _ => ⟨fun _ => trivial, fun _ => hj⟩, ← T.frame t l.length (Nat.le_refl _), hn] at this
        exact this
      · refine ⟨?_, hI.ext.keep, hI.ext.os, hI.ext.tape, hI.ext.output, hI.ext.size, hI.ext.frame, fun B L hB hL => hI.ext.img B L ?_ hL, fun B cs1 hB => hI.ext.ros B cs1 (hget B _ hB)⟩
        · show s.nxt ≤ r.s.nxt
          rw [hnx]; exact hI.ext.nxt
        · obtain ⟨b, hb, hbr⟩ := hB
          exact ⟨b, hget B b hb, hbr⟩
    · have : ∀ k, left (Array.replicate ops.size false) k ≤ k := by
        intro k
        induction k with
        | zero => simp [left]
        | succ k ih => simp only [left]; split <;> omega
      exact this _
    · have hlw : ∀ t k, lastW l (D 0).fr V (fun j => (Array.replicate ops.size false).getD j false = true) t k = geT fr t := by
        intro t k
        rw [lastW_stop (k := 0) (Nat.zero_le _) (fun j _ _ _ _ _ hs => by rw [hrep] at hs; cases hs)]
        simp only [lastW, hD0f]
      have hnofl : ∀ B b, ¬ Fl l D V (fun j => (Array.replicate ops.size false).getD j false = true) 0 B b := by
        rintro B b ⟨f, ⟨h1, _⟩, _⟩
        rw [hrep] at h1; cases h1
      refine ⟨hF.size, fun t ht => by rw [hlw]; exact hF.val t ht, Nat.zero_le _, fun e _ => ⟨fun hs => (by rw [hrep] at hs; cases hs), fun x => by omega⟩, rfl, fun B b => ⟨.inl, fun x => ?_⟩,
        fun B b hB => absurd hB (hnofl B b), ?_, ?_, fun f o _ ho hk => ?_, ?_⟩
      · rcases x with x | x
        · exact x
        · exact absurd x (hnofl B b)
      · rw [hD0s]
        exact (hR.quiet q).weaken (Nat.le_add_right _ _) fun B b hB => hB
      · rw [hD0s]
        exact ⟨Nat.le_add_right _ _, fun _ _ => rfl, rfl, rfl, rfl, Nat.le_refl _, fun _ _ _ => rfl, fun B L hB hL => .inr ⟨B, L, hB, hL, rfl⟩, fun _ _ hB => hB⟩
      · refine hR.fresh _ ?_
        rw [← hD0n]
        exact T.nid_mono 0 f (Nat.zero_le _) (Nat.le_of_lt (List.getElem?_eq_some_iff.1 ho).1)
      · rw [hcnt, hD0s, hD0n]; exact Nat.le_refl _
  · cases he
end
end Go.Vam
