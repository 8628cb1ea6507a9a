/- All operations that touch no memory, in one theorem. -/
import Derived.Test.YtpphomoijlilfaaVam7
namespace Go.Vam
open Go
section
variable {P : Program} {ρ : Rho} {w : World} {F : Type} [Store F Value]
theorem VR.add {B off n : Nat} {L : Loc} (h : ρ B = some L) : VR ρ (.pointer (some (Addr.add ⟨B, off, none⟩ n))) (.pointer (some (Addr.add ⟨L.b, L.sh + off, none⟩ n))) := by
  rw [add_none, add_none, Nat.add_assoc]; exact .ptr h
theorem slSl_sound {sz : Nat} {x x' : Value} {lo hi mx lo' hi' mx' : Option Value} {v : Value} {t e : TypeId} (ht : P.underlying t = some (.slice e)) (hs : sizeT P e = some sz)
    (hx : VR ρ x x') (h1 : OR ρ lo lo') (h2 : OR ρ hi hi') (h3 : OR ρ mx mx')
    (hv : slV sz x lo hi mx = some v) : Gives P ρ w (Instr.sliceAt t x' lo' hi' mx') v := by
  have hslice : ∀ (a : Option Addr) (len cap l h m : Nat), (Instr.sliceBounds true len cap lo' hi' mx').run P w = .ok (l, h, m) w →
      (Instr.sliceAt t (.slice a len cap) lo' hi' mx').run P w = .ok (.slice (if m = l then a else a.map (·.add (l * sz))) (h - l) (m - l)) w := by
    intro a len cap l h m hb
    simp only [Instr.sliceAt, Sem.run_bind, run_underlying ht, Result.andThen_ok, Instr.slice, hb, run_sizeT hs, Sem.run_pure]
  unfold slV at hv
  cases hx <;> simp only at hv <;> first | (cases hv; done) | skip
  ·
    rw [if_pos (by decide)] at hv
    split at hv
    · rename_i l h m hb
      cases hv
      obtain ⟨r1, r2, r3, r4, r5⟩ := bounds_run (P := P) (w := w) true h1 h2 h3 hb (Nat.le_refl _)
      have hm : (if mx.isSome then m else 0) = 0 := by split <;> omega
      have hm0 : m = 0 := by omega
      have hh0 : h = 0 := by rcases r3 with r3 | ⟨_, _, r3⟩ <;> omega
      have hl0 : l = 0 := by omega
      subst hm0; subst hh0; subst hl0
      rw [hm] at r1
      exact .same (by rw [hslice _ _ _ _ _ _ r1]) (by simp; exact .slNil)
    · cases hv
  ·
    rename_i B off len cap L hL hc
    rw [if_pos hc] at hv
    split at hv
    · rename_i l h m hb
      cases hv
      obtain ⟨r1, r2, r3, r4, r5⟩ := bounds_run (P := P) (w := w) true h1 h2 h3 hb (Nat.le_refl _)
      have hmm : (if mx.isSome then m else cap) = m := by
        cases mx with
        | some _ => rfl
        | none => exact (r5 rfl).symm
      rw [hmm] at r1
      refine .same (hslice _ _ _ _ _ _ r1) ?_
      have hc' : m - l < OPEN := by omega
      split
      · exact .sl hL hc'
      · simp only [Option.map_some, add_none, Nat.add_assoc]
        exact .sl hL hc'
    · cases hv
  ·
    rename_i B off len cap L hL ht' hl hzL
    rw [if_neg (by omega)] at hv
    split at hv
    case isFalse => rw [if_neg (by have hO : OPEN = 18446744073709551616 := rfl; omega)] at hv; cases hv
    rename_i hszL
    have hszO : sz < OPEN := hszL.2
    have hszL : L.sz = sz := by omega
    cases mx with
    | none =>
      simp only at hv
      split at hv
      · rename_i l h m hb
        cases hv
        obtain ⟨r1, r2, r3, r4, r5⟩ := bounds_run (P := P) (w := w) true h1 h2 h3 hb hl
        simp only [Option.isSome_none, Bool.false_eq_true, if_false] at r1
        have hlen : h ≤ len := by rcases r3 with r3 | ⟨_, _, r3⟩ <;> omega
        refine .same (hslice _ _ _ _ _ _ r1) ?_
        simp only [Option.map_some, add_none]
        split
        · rename_i e
          have h0 : h - l = 0 := by omega
          have h1 : cap - l = 0 := by omega
          have h2 : len - l = 0 := by omega
          rw [h0, h1, h2]
          rw [← hszL]; exact .slOpen0 hL (by omega)
        · rw [Nat.add_assoc]
          have hroom : L.sh + (off + l * sz) + (cap - l) * L.sz = L.tot := by
            rw [hszL] at ht' ⊢
            have : cap * sz = l * sz + (cap - l) * sz := by rw [← Nat.add_mul]; congr 1; omega
            omega
          unfold halfC
          split
          · rw [← hszL] at hroom ⊢
            exact .slOpen hL hroom (by omega) (by omega)
          · rw [← hszL] at hroom hszO ⊢
            exact .slHalf hL hroom ⟨by omega, by omega⟩ hszO
      · cases hv
    | some x =>
      simp only at hv
      split at hv
      · rename_i l h m hb
        split at hv
        · rename_i hpos
          cases hv
          obtain ⟨r1, r2, r3, r4, r5⟩ := bounds_run (P := P) (w := w) true h1 h2 h3 hb hl
          simp only [Option.isSome_some, if_true] at r1
          refine .same (hslice _ _ _ _ _ _ r1) ?_
          have hc' : m - l < OPEN := by omega
          split
          · exact .sl hL hc'
          · simp only [Option.map_some, add_none, Nat.add_assoc]
            exact .sl hL hc'
        · cases hv
      · cases hv
  ·
    rename_i B off L a hL hzL
    rw [if_neg (by omega)] at hv
    split at hv
    case isFalse => rw [if_neg (by have hO : OPEN = 18446744073709551616 := rfl; omega)] at hv; cases hv
    rename_i hszL
    have hszO : sz < OPEN := hszL.2
    have hszL : L.sz = sz := by omega
    cases mx with
    | none =>
      simp only at hv
      split at hv
      · rename_i l h m hb
        cases hv
        obtain ⟨r1, r2, r3, r4, r5⟩ := bounds_run (P := P) (w := w) true h1 h2 h3 hb (Nat.le_refl _)
        simp only [Option.isSome_none, Bool.false_eq_true, if_false] at r1
        have hlen : h ≤ 0 := by rcases r3 with r3 | ⟨_, _, r3⟩ <;> omega
        have hh0 : h = 0 := by omega
        have hl0 : l = 0 := by omega
        subst hh0; subst hl0
        refine .same (hslice _ _ _ _ _ _ r1) ?_
        simp only [Option.map_some, add_none, if_true]
        rw [← hszL]; exact .slOpen0 hL (by omega)
      · cases hv
    | some x =>
      simp only at hv
      split at hv
      · rw [if_neg (by omega)] at hv; cases hv
      · cases hv
  ·
    rename_i B off len cap g L hL ht' hl hz
    have hO : OPEN = 18446744073709551616 := rfl
    have hdiv : (OPEN * (g + 2) + L.sz) / OPEN = g + 2 := by
      rw [Nat.mul_add_div (by decide), Nat.div_eq_of_lt hz]
    have hmod : (OPEN * (g + 2) + L.sz) % OPEN = L.sz := by
      rw [Nat.mul_add_mod, Nat.mod_eq_of_lt hz]
    have hbig : 2 * OPEN ≤ OPEN * (g + 2) + L.sz := by
      rw [Nat.mul_add]; omega
    rw [if_neg (by omega)] at hv
    split at hv
    · rename_i hbad; exfalso; omega
    rw [hdiv, hmod] at hv
    split at hv
    case isFalse => cases hv
    rename_i hc
    have hszL : L.sz = sz := hc.2.1
    cases mx with
    | some x => cases hv
    | none =>
      simp only at hv
      split at hv
      · rename_i l h m hb
        cases hv
        obtain ⟨r1, r2, r3, r4, r5⟩ := bounds_run (P := P) (w := w) true h1 h2 h3 hb (show g + 2 - 2 ≤ cap by omega)
        simp only [Option.isSome_none, Bool.false_eq_true, if_false] at r1
        have hm : m = g := by have := r5 rfl; omega
        have hlen : h ≤ g := by rcases r3 with r3 | ⟨_, _, r3⟩ <;> omega
        refine .same (hslice _ _ _ _ _ _ r1) ?_
        simp only [Option.map_some, add_none]
        have hroom : L.sh + (off + l * sz) + (cap - l) * L.sz = L.tot := by
          rw [hszL] at ht' ⊢
          have : cap * sz = l * sz + (cap - l) * sz := by rw [← Nat.add_mul]; congr 1; omega
          omega
        split
        · rename_i e
          have h0 : h - l = 0 := by omega
          have h1 : cap - l = 0 := by omega
          have h2 : g + 2 - 2 - l = 0 := by omega
          rw [h0, h1, h2]
          rw [← hszL]; exact .slOpen0 hL (by omega)
        · rw [Nat.add_assoc]
          unfold halfC
          split
          · rw [← hszL] at hroom ⊢
            exact .slOpen hL hroom (by omega) (by omega)
          · rw [← hszL] at hroom ⊢
            exact .slHalf hL hroom ⟨by omega, by omega⟩ hz
      · cases hv
theorem slArr_val {n sz B off l h m : Nat} {L : Loc} {lo hi mx lo' hi' mx' : Option Value} (hL : ρ B = some L) (hn : n < OPEN) (h1 : OR ρ lo lo') (h2 : OR ρ hi hi') (h3 : OR ρ mx mx')
    (hb : bounds n n lo hi mx = some (l, h, m)) :
    (Instr.sliceBounds false n n lo' hi' mx').run P w = .ok (l, h, m) w ∧
      VR ρ (.slice (some (if m = l then ⟨B, off, none⟩ else Addr.add ⟨B, off, none⟩ (l * sz))) (h - l) (m - l))
        (.slice (some (if m = l then ⟨L.b, L.sh + off, none⟩ else Addr.add ⟨L.b, L.sh + off, none⟩ (l * sz))) (h - l) (m - l)) := by
  obtain ⟨r1, r2, r3, r4, r5⟩ := bounds_run (P := P) (w := w) false h1 h2 h3 hb (Nat.le_refl _)
  have hmm : (if mx.isSome then m else n) = m := by
    cases mx with
    | some _ => rfl
    | none => exact (r5 rfl).symm
  rw [hmm] at r1
  refine ⟨r1, ?_⟩
  have hc' : m - l < OPEN := by omega
  split
  · exact .sl hL hc'
  · rw [add_none, add_none, Nat.add_assoc]
    exact .sl hL hc'
theorem idx_run (k : IntKind) (n : Int) : (asIntOf (.int k n)).run P w = .ok (k, n) w := rfl
set_option maxHeartbeats 1000000 in
theorem pure_sound {o : Oper} {ao : AOp} {nt : Nat} {a : Act} {fr : F} {v : Value} (hc : compOp P o = some ao) (hk : ao.kind = .pur)
    (ho : o.op.operands.all (oprOk nt) = true) (hF : FrR ρ nt fr a) (hv : pureV fr ao = some v) : NextV P ρ w (execOp a.eval o) v := by
  obtain ⟨dst, op, type, pos, after, guard⟩ := o
  simp only at ho
  cases op <;> simp only [compOp, reduceCtorEq] at hc <;> simp only [Op.operands] at ho
  case move x =>
    cases hc
    simp only [pureV, Option.some.injEq] at hv; subst hv
    exact ⟨_, w, rfl, .refl w, hF.ev (by simpa using ho)⟩
  case assign x =>
    cases hc
    simp only [pureV, Option.some.injEq] at hv; subst hv
    exact ⟨_, w, rfl, .refl w, hF.ev (by simpa using ho)⟩
  case pick c x y =>
    cases hc
    simp at ho
    have h1 := hF.ev ho.1
    have h2 := hF.ev ho.2.1
    have h3 := hF.ev ho.2.2
    simp only [pureV] at hv
    split at hv
    · rename_i t ht
      rw [ht] at h1
      cases hv
      have e : a.eval c = .bool t := by
        generalize a.eval c = u at h1
        cases h1; rfl
      refine ⟨_, w, by simp only [execOp, e, asBool, Sem.run_bind, Sem.run_pure, Result.andThen_ok]; rfl, .refl w, ?_⟩
      split
      · exact h2
      · exact h3
    · cases hv
  case alloc e => obtain ⟨_, _, rfl⟩ := Option.map_eq_some_iff.1 hc; simp [AOp.kind] at hk
  case box e x => cases hc; simp [AOp.kind] at hk
  case build t parts =>
    split at hc
    · rename_i fields z ht hz
      split at hc
      · rename_i hall
        obtain ⟨ps, hps, rfl⟩ := Option.map_eq_some_iff.1 hc
        obtain ⟨i, zv, hi, hzv, hsz, rfl, hzz⟩ := zeroOf_spec (ρ := ρ) hz
        simp only [pureV] at hv
        obtain ⟨out, hout, rfl⟩ := Option.map_eq_some_iff.1 hv
        obtain ⟨hl, hp⟩ := placesOf_spec fields _ _ hps
        have hmap : (fields.mapM (fun f => (do pure (f.offset, ← sizeOf f.type) : Sem (Nat × Nat)))).run P w = .ok (fields.map fun f => (f.offset, (sizeT P f.type).getD 0)) w := by
          rw [Array.mapM_eq_mapM_toList]
          simp only [Sem.run_map, run_mapM_places fields.toList hall, Result.andThen_ok]
          congr 1
          apply Array.ext'
          simp
        obtain ⟨c', hc', hvc⟩ := fill_sound (ρ := ρ) ((fields.map fun f => (f.offset, (sizeT P f.type).getD 0))[·]?) (ps.map fun p => (p.1, p.2.1, evO fr p.2.2))
          ((parts.map fun x => (x.1, a.eval x.2)).toList) zv.cells.toList out zv.cells hout hzz (by simp [hl]) (fun j p q hp' hq => by
            simp only [List.getElem?_map, Option.map_eq_some_iff, Array.toList_map] at hp' hq
            obtain ⟨p0, hp0, rfl⟩ := hp'
            obtain ⟨q0, hq0, rfl⟩ := hq
            obtain ⟨f, hf1, hf2, hf3, hf4⟩ := hp j q0 p0 hq0 hp0
            refine ⟨by simp [hf1, hf2, hf3], ?_⟩
            simp only [hf4]
            refine hF.ev ?_
            have hm : q0 ∈ parts.toList := List.mem_of_getElem? hq0
            simp only [List.all_toArray, List.all_map, List.all_eq_true] at ho
            exact ho q0 hm)
        refine Gives.next (.same (v' := .agg c') ?_ hvc.agg)
        simp only [Instr.build, Sem.run_bind, run_zero hi hzv, Result.andThen_ok, run_underlying ht, hmap, hc', Sem.run_pure]
      · cases hc
    · rename_i n e z ht hz
      obtain ⟨sz, hsz, rfl⟩ := Option.map_eq_some_iff.1 hc
      obtain ⟨i, zv, hi, hzv, _, rfl, hzz⟩ := zeroOf_spec (ρ := ρ) hz
      simp only [pureV] at hv
      obtain ⟨out, hout, rfl⟩ := Option.map_eq_some_iff.1 hv
      obtain ⟨c', hc', hvc⟩ := fill_sound (ρ := ρ) (fun i => some (i * sz, sz)) _
          ((parts.map fun x => (x.1, a.eval x.2)).toList) zv.cells.toList out zv.cells hout hzz (by simp) (fun j p q hp' hq => by
            simp only [List.getElem?_map, Option.map_eq_some_iff, Array.toList_map] at hp' hq
            obtain ⟨p0, hp0, rfl⟩ := hp'
            obtain ⟨q0, hq0, rfl⟩ := hq
            obtain ⟨r0, hr0, rfl⟩ := hp0
            rw [hq0] at hr0; cases hr0
            refine ⟨rfl, hF.ev ?_⟩
            have hm : q0 ∈ parts.toList := List.mem_of_getElem? hq0
            simp only [List.all_toArray, List.all_map, List.all_eq_true] at ho
            exact ho q0 hm)
      refine Gives.next (.same (v' := .agg c') ?_ hvc.agg)
      simp only [Instr.build, Sem.run_bind, run_zero hi hzv, Result.andThen_ok, run_underlying ht, run_sizeT hsz, hc', Sem.run_pure]
    · cases hc
  case buildSlice t len parts =>
    split at hc
    · split at hc
      · split at hc
        · cases hc; simp [AOp.kind] at hk
        · cases hc
      · cases hc
    · cases hc
  case load t x => obtain ⟨_, _, rfl⟩ := Option.map_eq_some_iff.1 hc; simp [AOp.kind] at hk
  case store t x y => obtain ⟨_, _, rfl⟩ := Option.map_eq_some_iff.1 hc; simp [AOp.kind] at hk
  case nilCheck x =>
    cases hc
    have h1 := hF.ev (x := x) (by simpa using ho)
    simp only [pureV] at hv
    simp only [execOp]
    generalize evO fr x = u at *
    generalize a.eval x = u' at *
    cases h1 <;> (try simp only at hv) <;> first | (cases hv; done) | skip
    · cases hv
      exact ⟨_, w, rfl, .refl w, .ptr (by assumption)⟩
    · rename_i fn f c f' c' hf hcl h g
      split at hv
      · rename_i e; cases e
      · rename_i e; cases e
        cases hv
        exact ⟨_, w, rfl, .refl w, .func hf hcl h g⟩
      · cases hv
  case binOp op t x y yt =>
    simp at ho
    have h1 := hF.ev ho.1
    have h2 := hF.ev ho.2
    have key : ∀ (ao' : AOp), ao = ao' → ao' = .bin op x y → NextV P ρ w (execOp a.eval { dst, op := .binOp op t x y yt, type, pos, after, guard }) v := by
      intro ao' e1 e2
      subst e1; subst e2
      simp only [pureV] at hv
      exact Gives.next (binV_sound P ρ w op t x y h1 h2 hv)
    have keq : ∀ (neg : Bool) (t' : ATy), op = (if neg then BinOp.neq else BinOp.eql) → ao = .eq neg t' x y → (∃ d, P.underlying t = some d ∧ plainTy d = false) → atyOf P 10 t = some t' → P.eqGuardType P.depth t = false →
        NextV P ρ w (execOp a.eval { dst, op := .binOp op t x y yt, type, pos, after, guard }) v := by
      intro neg t' e1 e2 e3 e4 e5
      subst e2
      simp only [pureV] at hv
      obtain ⟨b, hb, rfl⟩ := Option.map_eq_some_iff.1 hv
      exact Gives.next (eqOp_sound P ρ w e4 e5 h1 h2 hb e3 op e1)
    split at hc
    · split at hc
      · rename_i d hd
        split at hc
        · cases hc; exact key _ rfl rfl
        · rename_i hpl
          split at hc
          · rename_i t' ht'
            split at hc
            · cases hc
            · rename_i hg
              cases hc
              exact keq false t' rfl rfl ⟨d, hd, by simpa using hpl⟩ ht' (by simpa using hg)
          · cases hc
      · cases hc
    · split at hc
      · rename_i d hd
        split at hc
        · cases hc; exact key _ rfl rfl
        · rename_i hpl
          split at hc
          · rename_i t' ht'
            split at hc
            · cases hc
            · rename_i hg
              cases hc
              exact keq true t' rfl rfl ⟨d, hd, by simpa using hpl⟩ ht' (by simpa using hg)
          · cases hc
      · cases hc
    · cases hc; exact key _ rfl rfl
  case unOp op t x =>
    cases hc
    simp only [pureV] at hv
    exact Gives.next (unV_sound P ρ w (hF.ev (by simpa using ho)) hv)
  case convert src dst x =>
    have h1 := hF.ev (x := x) (by simpa using ho)
    have key : ∀ (c : ConvK), ao = .conv c x → (∃ d, P.underlying src = some d) → convTo P dst c → NextV P ρ w (execOp a.eval { dst := ‹Option Tmp›, op := .convert src dst x, type, pos, after, guard }) v := by
      intro c e1 e2 e3
      subst e1
      simp only [pureV] at hv
      exact Gives.next (convV_sound P ρ w h1 hv e2 e3)
    split at hc
    · cases hc; exact key _ rfl ⟨_, by assumption⟩ (by assumption)
    · cases hc; exact key _ rfl ⟨_, by assumption⟩ (by assumption)
    · cases hc; exact key _ rfl ⟨_, by assumption⟩ (by assumption)
    · cases hc; exact key _ rfl ⟨_, by assumption⟩ (by assumption)
    · split at hc
      · cases hc; simp [AOp.kind] at hk
      · cases hc
    · split at hc
      · cases hc; simp [AOp.kind] at hk
      · cases hc
    · split at hc
      · split at hc
        · cases hc; simp [AOp.kind] at hk
        · cases hc
      · cases hc
    · cases hc
  case makeInterface t x =>
    have h1 := hF.ev (x := x) (by simpa using ho)
    split at hc
    · cases hc
    · rename_i d hni hd
      cases hc
      simp only [pureV, Option.some.injEq] at hv; subst hv
      refine Gives.next (.same ?_ (.iface h1))
      simp only [Instr.makeInterface, Sem.run_bind, run_underlying hd, Result.andThen_ok]
      cases d <;> first | rfl | exact absurd rfl (hni _)
    · cases hc
  case makeFunc fn first captured =>
    cases hc
    simp only [Array.all_append, Bool.and_eq_true] at ho
    simp only [pureV, Option.some.injEq] at hv; subst hv
    have h1 := hF.evs ho.1
    have h2 := hF.evs ho.2
    exact Gives.next (.same rfl (.func (by simp) (by simp) (by simpa using h1.2) (by simpa using h2.2)))
  case makeMap t r => split at hc <;> cases hc; simp [AOp.kind] at hk
  case makeSlice t l c =>
    split at hc
    · split at hc
      · cases hc; simp [AOp.kind] at hk
      · cases hc
    · cases hc
  case slice t x lo hi mx =>
    simp only [Array.all_append, Bool.and_eq_true] at ho
    obtain ⟨⟨⟨h0, h1⟩, h2⟩, h3⟩ := ho
    have hx := hF.ev (x := x) (by simpa using h0)
    have g1 := OR.map hF h1
    have g2 := OR.map hF h2
    have g3 := OR.map hF h3
    simp only [execOp]
    split at hc
    · rename_i ht
      split at hc
      · cases hc
        simp only [pureV] at hv
        split at hv
        · rename_i s hs
          split at hv
          · rename_i l h m hb
            cases hv
            rw [hs] at hx
            obtain ⟨r1, r2, r3, r4, r5⟩ := bounds_run (P := P) (w := w) false g1 g2 (show OR ρ none none from trivial) hb (Nat.le_refl _)
            refine Gives.next (.same ?_ (.string _))
            generalize a.eval x = u' at *
            cases hx
            simp only [Instr.sliceAt, Sem.run_bind, run_underlying ht, Result.andThen_ok, Instr.slice, Option.map_none, Option.isSome_none, Bool.false_eq_true, if_false, r1, Sem.run_pure]
          · cases hv
        · cases hv
      · cases hc
    · rename_i e ht
      obtain ⟨sz, hsz, rfl⟩ := Option.map_eq_some_iff.1 hc
      simp only [pureV] at hv
      exact Gives.next (slSl_sound ht hsz hx g1 g2 g3 hv)
    · rename_i n e ht
      split at hc
      · rename_i hn
        obtain ⟨sz, hsz, rfl⟩ := Option.map_eq_some_iff.1 hc
        simp only [pureV] at hv
        split at hv
        · rename_i p hp
          rw [hp] at hx
          generalize a.eval x = u' at *
          cases hx
          split at hv
          · rename_i l h m hb
            cases hv
            obtain ⟨r1, r2⟩ := slArr_val (P := P) (w := w) (by assumption) hn g1 g2 g3 hb
            refine Gives.next (.same ?_ r2)
            simp only [Instr.sliceAt, Sem.run_bind, run_underlying ht, Result.andThen_ok, Instr.sureAddr, Sem.run_pure, r1, run_sizeT hsz]
          · cases hv
        · cases hv
      · cases hc
    · rename_i pe ht
      split at hc
      · rename_i n e ht2
        split at hc
        · rename_i hn
          obtain ⟨sz, hsz, rfl⟩ := Option.map_eq_some_iff.1 hc
          simp only [pureV] at hv
          split at hv
          · rename_i p hp
            rw [hp] at hx
            generalize a.eval x = u' at *
            cases hx
            split at hv
            · rename_i l h m hb
              cases hv
              obtain ⟨r1, r2⟩ := slArr_val (P := P) (w := w) (by assumption) hn g1 g2 g3 hb
              refine Gives.next (.same ?_ r2)
              simp only [Instr.sliceAt, Sem.run_bind, run_underlying ht, Result.andThen_ok, Instr.slice, asAddr, Sem.run_pure, run_underlying ht2, r1, run_sizeT hsz]
            · cases hv
          · cases hv
        · cases hc
      · cases hc
    · cases hc
  case fieldAddr s x f =>
    have hx := hF.ev (x := x) (by simpa using ho)
    split at hc
    · rename_i fields hs
      split at hc
      · rename_i fd hfd
        split at hc
        · rename_i n hn
          cases hc
          simp only [pureV] at hv
          simp only [execOp]
          generalize evO fr x = u at *
          generalize a.eval x = u' at *
          cases hx <;> simp only at hv <;> first | (cases hv; done) | skip
          cases hv
          refine Gives.next (.same ?_ (VR.add (by assumption)))
          simp only [Instr.fieldAt, Sem.run_bind, run_underlying hs, Result.andThen_ok, hfd, Instr.sureAddr, Sem.run_pure, fieldPlace, run_sizeT hn]
          simp
        · cases hc
      · cases hc
    · cases hc
  case field t x f =>
    have hx := hF.ev (x := x) (by simpa using ho)
    split at hc
    · rename_i fields hs
      split at hc
      · rename_i fd hfd
        obtain ⟨n, hn, rfl⟩ := Option.map_eq_some_iff.1 hc
        simp only [pureV] at hv
        simp only [execOp]
        generalize evO fr x = u at *
        generalize a.eval x = u' at *
        cases hx <;> simp only at hv <;> first | (cases hv; done) | skip
        rename_i hl h
        obtain ⟨v', r1, r2⟩ := part_sound (P := P) (ρ := ρ) (w := w) hn hv ⟨hl, h⟩
        refine Gives.next (.same ?_ r2)
        simp only [Instr.field, Sem.run_bind, run_underlying hs, Result.andThen_ok, hfd, asAgg, Sem.run_pure, r1]
      · cases hc
    · cases hc
  case indexAddr t x i =>
    simp at ho
    have hx := hF.ev ho.1
    have hi := hF.ev ho.2
    simp only [execOp]
    split at hc
    · rename_i len e ht
      obtain ⟨sz, hsz, rfl⟩ := Option.map_eq_some_iff.1 hc
      simp only [pureV] at hv
      split at hv
      · rename_i p j hp hj
        cases hv
        rw [hp] at hx
        obtain ⟨k, n, hn, n0, n1, rfl⟩ := idxV_spec hi hj
        rw [hn]
        generalize a.eval x = u' at *
        cases hx
        refine Gives.next (.same ?_ (VR.add (by assumption)))
        have hb : 0 ≤ n ∧ n < (len : Int) := ⟨n0, n1⟩
        simp only [Instr.indexAt, Sem.run_bind, idx_run, Result.andThen_ok, run_underlying ht, Instr.sureAddr, Sem.run_pure]
        rw [if_pos hb]
        simp only [Sem.run_bind, run_sizeT hsz, Result.andThen_ok, Sem.run_pure]
      · cases hv
    · rename_i e ht
      obtain ⟨sz, hsz, rfl⟩ := Option.map_eq_some_iff.1 hc
      simp only [pureV] at hv
      split at hv
      · rename_i p len cap hp
        split at hv
        · rename_i j hj
          cases hv
          rw [hp] at hx
          obtain ⟨k, n, hn, n0, n1, rfl⟩ := idxV_spec hi hj
          rw [hn]
          generalize a.eval x = u' at *
          have hb : 0 ≤ n ∧ n < (len : Int) := ⟨n0, n1⟩
          cases hx
          · refine Gives.next (.same ?_ (VR.add (by assumption)))
            simp only [Instr.indexAt, Sem.run_bind, idx_run, Result.andThen_ok, run_underlying ht, Sem.run_pure]
            rw [if_pos hb]
            simp only [Sem.run_bind, run_sizeT hsz, Result.andThen_ok, Sem.run_pure]
          · refine Gives.next (.same ?_ (VR.add (by assumption)))
            simp only [Instr.indexAt, Sem.run_bind, idx_run, Result.andThen_ok, run_underlying ht, Sem.run_pure]
            rw [if_pos hb]
            simp only [Sem.run_bind, run_sizeT hsz, Result.andThen_ok, Sem.run_pure]
          · omega
          · refine Gives.next (.same ?_ (VR.add (by assumption)))
            simp only [Instr.indexAt, Sem.run_bind, idx_run, Result.andThen_ok, run_underlying ht, Sem.run_pure]
            rw [if_pos hb]
            simp only [Sem.run_bind, run_sizeT hsz, Result.andThen_ok, Sem.run_pure]
        · cases hv
      · cases hv
    · cases hc
  case index t x i =>
    simp at ho
    have hx := hF.ev ho.1
    have hi := hF.ev ho.2
    simp only [execOp]
    split at hc
    · rename_i len e ht
      split at hc
      · rename_i d sz hd hsz
        cases hc
        simp only [pureV] at hv
        split at hv
        · rename_i cs hcs
          split at hv
          · rename_i j hj
            rw [hcs] at hx
            obtain ⟨k, n, hn, n0, n1, rfl⟩ := idxV_spec hi hj
            rw [hn]
            generalize a.eval x = u' at *
            cases hx
            rename_i hl h
            have hb : 0 ≤ n ∧ n < (len : Int) := ⟨n0, n1⟩
            have hpn : partN P e = some (if aggB d then some sz else none) := by
              obtain ⟨i, hi, rfl⟩ := Option.map_eq_some_iff.1 hsz
              simp [partN, hd, hi]
              split <;> rfl
            obtain ⟨v', r1, r2⟩ := part_sound (P := P) (ρ := ρ) (w := w) hpn hv ⟨hl, h⟩
            refine Gives.next (.same ?_ r2)
            simp only [Instr.index, Sem.run_bind, idx_run, Result.andThen_ok, run_underlying ht]
            rw [if_pos hb]
            simp only [Sem.run_bind, run_sizeT hsz, Result.andThen_ok, r1]
          · cases hv
        · cases hv
      · cases hc
    · rename_i ht
      cases hc
      simp only [pureV] at hv
      split at hv
      · rename_i s k n hs hn
        split at hv
        · rename_i n0
          obtain ⟨b, hb, rfl⟩ := Option.map_eq_some_iff.1 hv
          rw [hs] at hx
          rw [hn] at hi
          generalize a.eval x = u' at *
          generalize a.eval i = i' at *
          cases hx; cases hi
          have hget : s[n.toNat]? = some b := by
            obtain ⟨hl, hb'⟩ := List.getElem?_eq_some_iff.1 hb
            have hlt : n.toNat < s.size := by simpa using hl
            rw [getElem?_pos s n.toNat hlt]
            rw [← hb']
            rfl
          refine Gives.next (.same ?_ (.int _ _))
          simp only [Instr.index, Sem.run_bind, idx_run, Result.andThen_ok, run_underlying ht]
          rw [if_pos n0, hget]
          rfl
        · cases hv
      · cases hv
    · cases hc
  case lookup t m k ok =>
    split at hc
    · split at hc
      · split at hc
        · split at hc
          · cases hc; simp [AOp.kind] at hk
          · cases hc
        · cases hc
      · cases hc
    · cases hc
  case mapUpdate t m k x =>
    split at hc
    · obtain ⟨_, _, rfl⟩ := Option.map_eq_some_iff.1 hc; simp [AOp.kind] at hk
    · cases hc
  case extract x i =>
    cases hc
    have hx := hF.ev (x := x) (by simpa using ho)
    simp only [pureV] at hv
    simp only [execOp]
    generalize evO fr x = u at *
    generalize a.eval x = u' at *
    cases hx <;> simp only at hv <;> first | (cases hv; done) | skip
    rename_i hl h
    obtain ⟨v', r1, r2⟩ := VL.get ⟨hl, h⟩ hv
    rw [Array.getElem?_toList] at r1
    refine Gives.next (.same ?_ r2)
    simp only [Instr.extract, r1]
    rfl
  case call c => exact compCall_pur rfl hc hk (by simpa using ho) hF hv
end
end Go.Vam
