/- One operation of whatever kind, as the machine takes it. -/
import Derived.Test.YtpphomoijlilfaaVam13
namespace Go.Vam
open Go
section
variable {P : Program} {ρ : Rho} {w : World} {F H : Type} [Store F Value] [Store H ABlk]
def UponR (P : Program) (R : Value → World → Prop) : Result Next → Prop
  | .ok (.value v) w' => R v w'
  | .ok .skip w' => R undef w'
  | .ok (.enter f args) w' => Calls P f args w' fun e w'' => ∃ v, e = .returned v ∧ R v w''
  | _ => False
theorem wp_of_upon {o : Oper} {a : Act} {K : Act → World → Prop} {Q : Exit → Act → World → Prop} (h : UponR P (fun v w' => K (a.put o.dst v) w') ((execOp a.eval o).run P w)) : o.wp P a w K Q := by
  unfold Oper.wp
  generalize (execOp a.eval o).run P w = r at h
  cases r with
  | ok n w' =>
    cases n <;> simp only [UponR] at h <;> first | exact h | skip
    simp only [Oper.upon]
    refine h.mono fun e w'' he => ?_
    obtain ⟨v, rfl, hv⟩ := he
    exact hv
  | halt x w' => simp only [UponR] at h
def StepWp (P : Program) (ρ : Rho) (s : AS H) (w : World) (o : Oper) (a : Act) (v : Value) (s' : AS H) : Prop :=
  ∀ (R : Value → World → Prop),
    (∀ ρ' w' v', VR ρ' v v' → Rep ρ' s' w' → Ext ρ s w ρ' s' w' → R v' w') → UponR P R ((execOp a.eval o).run P w)
theorem StepWp.quiet {s : AS H} (hR : Rep ρ s w) {o : Oper} {a : Act} {v : Value} (h : NextV P ρ w (execOp a.eval o) v) : StepWp P ρ s w o a v s := by
  obtain ⟨v', w', h1, h2, h3⟩ := h
  intro K hK
  rw [h1]
  exact hK ρ w' v' h3 (hR.quiet h2) (Ext.quiet h2)
theorem StepWp.leaves {s s' : AS H} {o : Oper} {a : Act} {v : Value} {m : Sem Value} (hm : execOp a.eval o = (do pure (.value (← m)))) (h : Leaves P ρ s w m v s') : StepWp P ρ s w o a v s' := by
  obtain ⟨ρ', w', v', h1, h2, h3, h4⟩ := h
  intro K hK
  rw [hm]
  simp only [Sem.run_bind, h1, Result.andThen_ok, Sem.run_pure]
  exact hK ρ' w' v' h2 h3 h4
theorem StepWp.unit {s s' : AS H} {o : Oper} {a : Act} {m : Sem Unit} (hm : execOp a.eval o = (do m; pure .skip)) (ρ' : Rho) (w' : World) (h1 : m.run P w = .ok () w') (h3 : Rep ρ' s' w') (h4 : Ext ρ s w ρ' s' w') :
    StepWp P ρ s w o a undefV s' := by
  intro K hK
  rw [hm]
  simp only [Sem.run_bind, h1, Result.andThen_ok, Sem.run_pure]
  exact hK ρ' w' undef VR.undef h3 h4
theorem StepWp.new {s : AS H} (hR : Rep ρ s w) {o : Oper} {a : Act} {v : Value} {b : ABlk} (hb : b.rw = true)
    (h : ∃ obj L v', (execOp a.eval o).run P w = .ok (.value v') (w.alloc obj) ∧ L.b = w.heap.size ∧ VR (upd ρ s.nxt L) v v' ∧
      ∀ w' : World, w'.heap[L.b]? = some obj → BR (upd ρ s.nxt L) L w' b) : StepWp P ρ s w o a v (newAt s b) := by
  obtain ⟨obj, L, v', h1, h2, h3, h4⟩ := h
  have hf := hR.fresh s.nxt (Nat.le_refl _)
  have hnew := Rep.newAt (s' := (Vam.newAt s b : AS H)) (w' := w.alloc obj) (B := s.nxt) (L := L) (b := b) hR hf
    (Nat.lt_succ_self _) (Nat.le_succ _) (fun x => Store.get_put _ _ _ _) h2 (by simp) (fun k hk => by
      show (w.heap.push _)[k]? = _
      rw [Array.getElem?_push, if_neg (by omega)]) (h4 _ (by
      show (w.heap.push _)[L.b]? = _
      rw [h2]; simp)) rfl rfl rfl hb
  intro K hK
  rw [h1]
  exact hK _ _ _ h3 hnew.1 (hnew.2 (Nat.le_refl _))
def ExtOk (P : Program) : Prop := ∀ (g : FuncId) (fn : Func) (e : Nat), P.funcs[g]? = some fn → extName fn.name = some e →
  ∀ (ρ : Rho) (args args' : List Value) (v : Value) (w : World), VL ρ args args' → extV e args = some v →
    (∃ v' w', (callFunc g args'.toArray).run P w = .ok (.value v') w' ∧ Quiet w w' ∧ VR ρ v v') ∨
    ((callFunc g args'.toArray).run P w = .ok (.enter g args'.toArray) w ∧ Calls P g args'.toArray w fun e w' => ∃ v', e = .returned v' ∧ Quiet w w' ∧ VR ρ v v')
def CfOk (P : Program) (cf : CallF H) : Prop := ∀ (f : FuncId) (args : List Value) (s : AS H) (v : Value) (s' : AS H), cf f args s = some (v, s') →
  ∀ (ρ : Rho) (w : World) (args' : List Value), VL ρ args args' → Rep ρ s w →
    (∃ fn, P.funcs[f]? = some fn ∧ fn.body.isSome ∧ fn.name ≠ "runtime.NumGoroutine") ∧
    Calls P f args'.toArray w fun e w' => ∃ ρ' v', e = .returned v' ∧ VR ρ' v v' ∧ Rep ρ' s' w' ∧ Ext ρ s w ρ' s' w'
theorem run_callFunc_enter {f : FuncId} {args : Array Value} (h : ∃ fn, P.funcs[f]? = some fn ∧ fn.body.isSome ∧ fn.name ≠ "runtime.NumGoroutine") :
    (callFunc f args).run P w = .ok (.enter f args) w := by
  obtain ⟨fn, h1, h2, h3⟩ := h
  have h4 : fn.body.isNone = false := by cases hb : fn.body <;> simp [hb] at h2 ⊢
  have h5 : (fn.name == "runtime.NumGoroutine") = false := by simpa using h3
  simp only [callFunc, Sem.run_bind, run_program, Result.andThen_ok, h1, h5, h4, Bool.false_eq_true, if_false, Sem.run_pure]
theorem compCall_act {c : Call} {ao : AOp} {o : Oper} {nt : Nat} {a : Act} {fr : F} {v : Value} {s s' : AS H} {cf : CallF H} (hX : ExtOk P) (hcf : CfOk P cf) (hR : Rep ρ s w) (hop : o.op = .call c)
    (hc : compCall P c = some ao) (hk : ao.kind = .act)
    (ho : c.operands.all (oprOk nt) = true) (hF : FrR ρ nt fr a) (hv : actV cf fr s ao = some (v, s')) : StepWp P ρ s w o a v s' := by
  obtain ⟨callee, args, argTypes⟩ := c
  simp only [compCall] at hc
  cases callee with
  | invoke r m => simp at hc
  | value f =>
    have hargs : args.all (oprOk nt) = true ∧ oprOk nt f = true := by
      simp only [Call.operands, Array.all_append, Bool.and_eq_true] at ho
      exact ⟨ho.2, by simpa using ho.1⟩
    have hvl := hF.evs hargs.1
    have hfv := hF.ev hargs.2
    have key : ao = .call f args.toList → StepWp P ρ s w o a v s' := by
      intro e
      subst e
      simp only [actV] at hv
      split at hv
      · rename_i g first captured hfe
        rw [hfe] at hfv
        have hfa : ∃ first' captured', a.eval f = .func (.func g) first' captured' ∧ VL ρ first.toList first'.toList ∧ VL ρ captured.toList captured'.toList := by
          generalize a.eval f = u at hfv
          cases hfv with
          | func hf hc h g => exact ⟨_, _, rfl, ⟨hf, h⟩, ⟨hc, g⟩⟩
        obtain ⟨first', captured', e1, g1, g2⟩ := hfa
        have hall := (g1.append hvl).append g2
        obtain ⟨hfn, hcalls⟩ := hcf _ _ _ _ _ hv ρ w _ hall hR
        have harr : (first'.toList ++ (args.map a.eval).toList ++ captured'.toList).toArray = first' ++ args.map a.eval ++ captured' := by
          apply Array.ext'; simp
        rw [harr] at hcalls
        intro K hK
        simp only [execOp, hop, resolve, Deferred.ofValue, e1, Sem.run_bind, Sem.run_pure, Result.andThen_ok, invoke, run_callFunc_enter hfn]
        simp only [UponR]
        refine hcalls.mono fun e w' he => ?_
        obtain ⟨ρ', v', rfl, q1, q2, q3⟩ := he
        exact ⟨v', rfl, hK ρ' w' v' q1 q2 q3⟩
      · cases hv
    simp only at hc
    split at hc
    · rename_i g
      split at hc
      · rename_i fn hfn
        split at hc
        · rename_i e he
          cases hc
          simp only [actV] at hv
          obtain ⟨u, hu, hee⟩ := Option.map_eq_some_iff.1 hv
          simp only [Prod.mk.injEq] at hee
          obtain ⟨rfl, rfl⟩ := hee
          have hx := hX g fn e hfn he ρ _ _ u w hvl hu
          have harr : (args.map a.eval).toList.toArray = args.map a.eval := Array.toArray_toList
          rw [harr] at hx
          intro K hK
          simp only [execOp, hop, resolve, Deferred.ofValue, Act.eval, Sem.run_bind, Sem.run_pure, Result.andThen_ok, invoke]
          have happ : (#[] ++ args.map a.eval ++ #[] : Array Value) = args.map a.eval := by simp
          have hmap : Array.map (fun x => Act.eval a x) args = args.map a.eval := rfl
          rcases hx with ⟨v', w', q1, q2, q3⟩ | ⟨q1, q2⟩
          · have : (callFunc g (#[] ++ args.map a.eval ++ #[])).run P w = .ok (.value v') w' := by rw [happ]; exact q1
            erw [this]
            exact hK ρ w' v' q3 (hR.quiet q2) (Ext.quiet q2)
          · have : (callFunc g (#[] ++ args.map a.eval ++ #[])).run P w = .ok (.enter g (args.map a.eval)) w := by rw [happ]; exact q1
            erw [this]
            simp only [UponR]
            refine q2.mono fun e w' he => ?_
            obtain ⟨v', rfl, q3, q4⟩ := he
            exact ⟨v', rfl, hK ρ w' v' q4 (hR.quiet q3) (Ext.quiet q3)⟩
        · split at hc
          · cases hc
          · cases hc; exact key rfl
      · cases hc
    · cases hc; exact key rfl
  | builtin b =>
    have hargs : args.all (oprOk nt) = true := by simpa [Call.operands] using ho
    have hbu : ∀ (m : Sem Value) (hb : ∀ consts, builtin b argTypes o.type consts (args.map a.eval) = (do pure (.value (← m)))), Leaves P ρ s w m v s' → StepWp P ρ s w o a v s' := by
      intro m hb hl
      obtain ⟨ρ', w', v', h1, h2, h3, h4⟩ := hl
      intro K hK
      simp only [execOp, hop, resolve, Sem.run_bind, Sem.run_pure, Result.andThen_ok, invoke]
      rw [hb]
      simp only [Sem.run_bind, h1, Result.andThen_ok, Sem.run_pure]
      exact hK ρ' w' v' h2 h3 h4
    cases b <;> simp only [reduceCtorEq] at hc
    case append =>
      split at hc
      · rename_i st xt x y h1 h2
        obtain rfl := arr2 h1
        obtain rfl := arr2 h2
        simp at hargs
        split at hc
        · rename_i e dx hst hxt
          split at hc
          · cases hc
          · rename_i hni
            split at hc
            · rename_i i z hi hz
              cases hc
              obtain ⟨i', zv, hi', hzv, hzs, rfl, _⟩ := zeroOf_spec (ρ := ρ) hz
              rw [hi] at hi'; cases hi'
              simp only [actV] at hv
              refine hbu _ (fun _ => rfl) ?_
              simp only [List.map_toArray, List.map_cons, List.map_nil]
              exact append_sound hR hst ⟨dx, hxt, fun k e => hni k e⟩ hi hzv hzs (hF.ev hargs.1) (hF.ev hargs.2) hv
            · cases hc
        · cases hc
      · cases hc
    case copy =>
      split at hc
      · rename_i dt st x y h1 h2
        obtain rfl := arr2 h1
        obtain rfl := arr2 h2
        simp at hargs
        split at hc
        · rename_i e hdt
          obtain ⟨sz, hsz, rfl⟩ := Option.map_eq_some_iff.1 hc
          simp only [actV] at hv
          refine hbu _ (fun _ => rfl) ?_
          simp only [List.map_toArray, List.map_cons, List.map_nil]
          exact copy_sound hR hdt hsz (hF.ev hargs.1) (hF.ev hargs.2) hv
        · cases hc
      · cases hc
    case delete =>
      split at hc
      · rename_i mt kt' x y h1 h2
        obtain rfl := arr2 h1
        obtain rfl := arr2 h2
        simp at hargs
        have hm := hF.ev hargs.1
        have hkk := hF.ev hargs.2
        split at hc
        · rename_i kt e hmt
          obtain ⟨at_, hat, rfl⟩ := Option.map_eq_some_iff.1 hc
          simp only [actV] at hv
          refine hbu _ (fun _ => rfl) ?_
          simp only [List.map_toArray, List.map_cons, List.map_nil]
          generalize evO fr x = u at *
          generalize a.eval x = u' at *
          cases hm <;> simp only at hv <;> first | (cases hv; done) | skip
          · split at hv
            · rename_i hf
              cases hv
              obtain ⟨h1, _⟩ := findKey_sound (P := P) (ρ := ρ) (w := w) (es' := #[]) true hat hkk ⟨rfl, fun i e e' h => by simp at h⟩ hf
              refine ⟨ρ, w, .tuple #[], ?_, VR.undef, hR, .refl _ _ _⟩
              simp only [Builtin.delete_, List.getElem?_toArray, List.getElem?_cons_zero, List.getElem?_cons_succ, Sem.run_bind, run_underlying hmt, Result.andThen_ok, h1, Sem.run_pure]
            · cases hv
          · rename_i B L hL
            split at hv
            · rename_i es ck hg
              obtain ⟨L', g1, es', g2, g3⟩ := hR.blk _ _ hg
              rw [hL] at g1; cases g1
              have hob := getObj_map (P := P) g2
              split at hv
              · rename_i j x0 hf
                cases hv
                obtain ⟨h1, q, h2, h3⟩ := findKey_sound (P := P) (ρ := ρ) (w := w) es'.isEmpty hat hkk g3 hf
                cases q with
                | none => exact h3.elim
                | some q =>
                obtain ⟨rfl, h3⟩ := h3
                have hes : EsR ρ (es.eraseIdx q.1) (es'.eraseIdxIfInBounds q.1).toList := by
                  have := g3.erase q.1
                  have e : (es'.eraseIdxIfInBounds q.1).toList = es'.toList.eraseIdx q.1 := by
                    unfold Array.eraseIdxIfInBounds
                    split
                    · simp
                    · rename_i hlt; rw [List.eraseIdx_of_length_le (by simpa using hlt)]
                  rw [e]; exact this
                obtain ⟨w', r1, r2, r3⟩ := hR.setMap (P := P) hL hg (ck1 := ck) hes
                refine ⟨ρ, w', .tuple #[], ?_, VR.undef, r2, r3⟩
                simp only [Builtin.delete_, List.getElem?_toArray, List.getElem?_cons_zero, List.getElem?_cons_succ, Sem.run_bind, run_underlying hmt, Result.andThen_ok, hob, h1, h2, r1, Sem.run_pure]
              · rename_i hf
                cases hv
                obtain ⟨h1, q, h2, h3⟩ := findKey_sound (P := P) (ρ := ρ) (w := w) es'.isEmpty hat hkk g3 hf
                cases q with
                | some q => exact h3.elim
                | none =>
                obtain ⟨w', r1, r2, r3⟩ := hR.setMap (P := P) hL hg (ck1 := ck) g3
                have hsame : ∀ x, Store.get s.h x = Store.get (Store.put s.h B (some (ABlk.map es ck))) x := by
                  intro x; rw [Store.get_put]; split
                  · rename_i e; rw [e, hg]
                  · rfl
                have hst := Rep.same (s' := s) r2 rfl hsame
                refine ⟨ρ, w', .tuple #[], ?_, VR.undef, hst.1, r3.trans hst.2⟩
                simp only [Builtin.delete_, List.getElem?_toArray, List.getElem?_cons_zero, List.getElem?_cons_succ, Sem.run_bind, run_underlying hmt, Result.andThen_ok, hob, h1, h2, r1, Sem.run_pure]
              · cases hv
            · cases hv
        · cases hc
      · cases hc
    all_goals
      repeat' first
        | (cases hc; done)
        | (cases hc; simp [AOp.kind] at hk; done)
        | (obtain ⟨_, _, rfl⟩ := Option.map_eq_some_iff.1 hc; simp [AOp.kind] at hk; done)
        | split at hc
end
end Go.Vam
