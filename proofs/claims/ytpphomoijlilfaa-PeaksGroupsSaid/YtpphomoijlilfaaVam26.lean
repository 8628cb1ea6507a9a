/- The evaluator with some calls taken as they are known. -/
import Derived.Test.YtpphomoijlilfaaVam25
namespace Go.Vam
open Go
section
variable {P : Program} {F H : Type} [Store F Value] [Store H ABlk] {nt : Nat}
def evX (F : Type) [Store F Value] (orc : FuncId → List Value → Option Value) (fns : FuncId → Option AFn) : Nat → FuncId → List Value → AS H → Option (Value × AS H)
  | 0, _, _, _ => none
  | n + 1, f, args, s => match orc f args with
    | some v => some (v, s)
    | none => match fns f with
      | none => none
      | some fn =>
        if args.length ≤ fn.ntmps then
          match evC (evX F orc fns n) n fn.body (frameOf args 0 (Store.emp : F)) s with
          | some (.exit _, _, _) => none
          | some (_, fr', s') => (resVs fr' s' fn.results).map fun vs => (packV vs, s')
          | none => none
        else none
def OrcOk (P : Program) (orc : FuncId → List Value → Option Value) : Prop := ∀ f args v, orc f args = some v →
  (∃ fn, P.funcs[f]? = some fn ∧ fn.body.isSome ∧ fn.name ≠ "runtime.NumGoroutine") ∧
  ∀ (ρ : Rho) (args' : List Value) (w : World), VL ρ args args' → Calls P f args'.toArray w fun e w' => ∃ v', e = .returned v' ∧ VR ρ v v' ∧ RowKit.Below w.heap.size w w'
theorem Rep.below {ρ : Rho} {s : AS H} {w w' : World} (h : Rep ρ s w) (hb : RowKit.Below w.heap.size w w') : Rep ρ s w' ∧ Ext ρ s w ρ s w' :=
  ⟨⟨fun B b hB => let ⟨L, x, y⟩ := h.blk B b hB; ⟨L, x, y.of_block (hb.block _ (h.lt _ _ x))⟩, h.inj, h.fresh, fun B L hB => Nat.lt_of_lt_of_le (h.lt B L hB) hb.size⟩,
   ⟨Nat.le_refl _, fun _ _ => rfl, hb.os, hb.tape, hb.output, hb.size, fun b hlt _ => hb.block b hlt, fun B L h g => .inr ⟨B, L, h, g, rfl⟩, fun _ _ h => h⟩⟩
theorem evX_sound (hX : ExtOk P) (hm : P.follows .mixedOrders = true) {fns : FuncId → Option AFn} (hfns : FnsOk P fns) {orc : FuncId → List Value → Option Value} (ho : OrcOk P orc) : ∀ n, CfOk (H := H) P (evX F orc fns n) := by
  intro n
  induction n with
  | zero => intro f args s v s' he; cases he
  | succ n ih =>
    intro f args s v s' he ρ w args' hargs hR
    simp only [evX] at he
    split at he
    · rename_i u hu
      cases he
      obtain ⟨h1, h2⟩ := ho f args v hu
      refine ⟨h1, (h2 ρ args' w hargs).mono fun e w' hw => ?_⟩
      obtain ⟨v', rfl, g1, g2⟩ := hw
      obtain ⟨g3, g4⟩ := hR.below g2
      exact ⟨ρ, v', rfl, g1, g3, g4⟩
    split at he
    · cases he
    · rename_i afn hafn
      obtain ⟨fn, h1, h2, h3⟩ := hfns f afn hafn
      unfold compFn at h2
      split at h2
      · rename_i c hbody
        split at h2
        · rename_i ab ar hcb hcr
          cases h2
          refine ⟨⟨fn, h1, by rw [hbody]; rfl, h3⟩, ?_⟩
          split at he
          · rename_i hlen
            refine calls_of_wp h1 hbody ?_
            split at he
            · cases he
            · rename_i ex fr1 s1 hne hev
              obtain ⟨vs, hvs, hpk⟩ := Option.map_eq_some_iff.1 he
              cases hpk
              refine evC_sound hX ih hm c ab hcb n ρ _ fr1 s s' _ w ex hev (frame_start hargs hlen) hR _ fun ρ' a' w' g1 g2 g3 g4 => ?_
              have hdone : a'.defers = [] ∧ ∃ v, (results fn a'.tmps).run P w' = .ok v w' ∧ ∃ ρ' v', Ending.returned v = Ending.returned v' ∧ VR ρ' (packV vs) v' ∧ Rep ρ' s' w' ∧ Ext ρ s w ρ' s' w' := by
                obtain ⟨vs', k1, k2⟩ := results_sound g1 g2 fn.results.toList ar vs hcr hvs
                refine ⟨g4, _, ?_, ρ', _, rfl, k2.pack, g2, g3⟩
                simp only [results]
                rw [Array.mapM_eq_mapM_toList]
                simp only [Sem.run_bind, Sem.run_map]
                erw [k1]
                rfl
              cases ex with
              | normal => exact hdone
              | exit id => exact absurd rfl (hne id)
              | ret => exact hdone
            · cases he
          · cases he
        · cases h2
      · cases h2
end
end Go.Vam
