/- A region in the order of the text. -/
import Derived.Test.YtpphomoijlilfaaVam15
namespace Go.Vam
open Go
section
variable {P : Program} {F H : Type} [Store F Value] [Store H ABlk]
theorem Act.put_defers' (a : Act) (d : Option Tmp) (v : Value) : (a.put d v).defers = a.defers := by cases d <;> rfl
structure OperOk (P : Program) (nt : Nat) (ops : Array Oper) (o : Oper) (ao : AOper) : Prop where
  op : compOp P o = some ao.op
  dst : ao.dst = o.dst
  opr : o.op.operands.all (oprOk nt) = true
  dlt : match o.dst with | some d => d < nt | none => True
  grd : match o.guard with
    | some (j, b) => ∃ t, (ops[j]?).bind (·.dst) = some t ∧ t < nt ∧ ao.guard = some (t, b)
    | none => ao.guard = none
theorem compO_spec {nt : Nat} {ops : Array Oper} {o : Oper} {ao : AOper} (h : compO P nt ops o = some ao) : OperOk P nt ops o ao := by
  unfold compO at h
  split at h
  · rename_i hok
    obtain ⟨a, ha, rfl⟩ := Option.map_eq_some_iff.1 h
    simp only [operOk, Bool.and_eq_true] at hok
    obtain ⟨⟨h1, h2⟩, h3⟩ := hok
    refine ⟨ha, rfl, h1, ?_, ?_⟩
    · cases hd : o.dst with
      | none => trivial
      | some d => rw [hd] at h2; simpa using h2
    · cases hg : o.guard with
      | none => rfl
      | some g =>
        obtain ⟨j, b⟩ := g
        rw [hg] at h3
        simp only at h3 ⊢
        cases ht : (ops[j]?).bind (·.dst) with
        | none => rw [ht] at h3; cases h3
        | some t => rw [ht] at h3; exact ⟨t, rfl, by simpa using h3, rfl⟩
  · cases h
theorem want_eq {ρ : Rho} {nt : Nat} {ops : Array Oper} {o : Oper} {ao : AOper} {fr : F} {a : Act} (h : OperOk P nt ops o ao) (hF : FrR ρ nt fr a) :
    Region.wanted o (yielded ops a.tmps) = wantV fr ao.guard := by
  have hg := h.grd
  unfold Region.wanted wantV
  cases ho : o.guard with
  | none => rw [ho] at hg; rw [hg]
  | some g =>
    obtain ⟨j, b⟩ := g
    rw [ho] at hg
    obtain ⟨t, h1, h2, h3⟩ := hg
    rw [h3]
    have hv := hF.val t h2
    have hlt : t < a.tmps.size := by rw [hF.size]; exact h2
    have hy : a.tmps[t]? = some (a.tmps.getD t undef) := by
      simp [Array.getD, hlt]
    simp only [yielded, h1, Option.bind_some, hy]
    generalize geT fr t = u at *
    generalize a.tmps.getD t undef = u' at *
    cases hv <;> simp
theorem compL_cons {nt : Nat} {ops : Array Oper} {o : Oper} {os : List Oper} {l : List AOper} (h : compL P nt ops (o :: os) = some l) :
    ∃ ao l', compO P nt ops o = some ao ∧ compL P nt ops os = some l' ∧ l = ao :: l' := by
  simp only [compL] at h
  split at h
  · rename_i a r h1 h2; cases h; exact ⟨a, r, h1, h2, rfl⟩
  · cases h
theorem evOps_sound {cf : CallF H} (hX : ExtOk P) (hcf : CfOk P cf) {nt : Nat} {ops : Array Oper} {Q : Exit → Act → World → Prop} :
    ∀ (os : List Oper) (i : Nat) (l : List AOper) (ρ : Rho) (fr fr' : F) (s s' : AS H) (a : Act) (w : World), (∀ j, os[j]? = ops[i + j]?) → compL P nt ops os = some l →
      evOps cf l fr s = some (fr', s') → FrR ρ nt fr a → Rep ρ s w →
      (∀ ρ' a' w', FrR ρ' nt fr' a' → Rep ρ' s' w' → Ext ρ s w ρ' s' w' → a'.defers = a.defers → Q .normal a' w') →
      wpOps P ops Q (List.range' i os.length) a w := by
  intro os
  induction os with
  | nil =>
    intro i l ρ fr fr' s s' a w _ hc he hF hR hQ
    simp [compL] at hc; subst hc
    simp [evOps] at he
    obtain ⟨rfl, rfl⟩ := he
    exact hQ ρ a w hF hR (.refl _ _ _) rfl
  | cons o os ih =>
    intro i l ρ fr fr' s s' a w hos hc he hF hR hQ
    obtain ⟨ao, l', h1, h2, rfl⟩ := compL_cons hc
    have hok := compO_spec h1
    have ho : ops[i]? = some o := by simpa using (hos 0).symm
    have hos' : ∀ j, os[j]? = ops[i + 1 + j]? := fun j => by
      have := hos (j + 1)
      simp only [List.getElem?_cons_succ] at this
      rw [this]; congr 1; omega
    simp only [List.length_cons, List.range'_succ, wpOps, ho, want_eq hok hF]
    simp only [evOps] at he
    split at he
    · rename_i hw
      rw [if_pos hw]
      split at he
      · rename_i v s1 hst
        left
        refine wp_of_upon (step_sound hX hcf hR hok.op hok.opr hF hst _ ?_)
        intro ρ1 w1 v1 hv hR1 hE
        refine ih (i + 1) l' ρ1 (puT fr ao.dst v) fr' s1 s' (a.put o.dst v1) w1 hos' h2 he ?_ hR1 ?_
        · rw [hok.dst]
          exact (hF.mono (hR.sub hE)).put hok.dlt hv
        · intro ρ' a' w' g1 g2 g3 g4
          exact hQ ρ' a' w' g1 g2 (hE.trans g3) (by rw [g4, Act.put_defers'])
      · cases he
    · rename_i hw
      rw [if_neg hw]
      refine ih (i + 1) l' ρ (puT fr ao.dst undefV) fr' s s' (a.put o.dst undef) w hos' h2 he ?_ hR ?_
      · rw [hok.dst]
        exact hF.put hok.dlt VR.undef
      · intro ρ' a' w' g1 g2 g3 g4
        exact hQ ρ' a' w' g1 g2 g3 (by rw [g4, Act.put_defers'])
end
end Go.Vam
