/- Code, results, calls: what the evaluator tells of a call holds of the call. -/
import Derived.Test.YtpphomoijlilfaaVam22
import Derived.LoopN
import Derived.Eval
namespace Go.Vam
open Go
section
variable {P : Program} {F H : Type} [Store F Value] [Store H ABlk] {nt : Nat}
def exitOf : AExit → Exit
  | .normal => .normal
  | .exit id => .exit id
  | .ret => .ret
def Leave (nt : Nat) (ρ : Rho) (s : AS H) (a : Act) (w : World) (e : AExit) (fr' : F) (s' : AS H) (Q : Exit → Act → World → Prop) : Prop :=
  ∀ ρ' a' w', FrR ρ' nt fr' a' → Rep ρ' s' w' → Ext ρ s w ρ' s' w' → a'.defers = a.defers → Q (exitOf e) a' w'
def CodeOk (P : Program) (cf : CallF H) (nt : Nat) (F : Type) [Store F Value] (c : Code) (ac : ACode) : Prop :=
  ∀ (n : Nat) (ρ : Rho) (fr fr' : F) (s s' : AS H) (a : Act) (w : World) (e : AExit), evC cf n ac fr s = some (e, fr', s') → FrR ρ nt fr a → Rep ρ s w →
    ∀ Q, Leave nt ρ s a w e fr' s' Q → c.wp P Q a w
theorem iter_sound {cf : CallF H} {c : Code} {ac : ACode} (h : CodeOk P cf nt F c ac) (m : Nat) : ∀ (n : Nat) (ρ : Rho) (fr fr' : F) (s s' : AS H) (a : Act) (w : World) (e : AExit), iter (evC cf m ac) n fr s = some (e, fr', s') → FrR ρ nt fr a → Rep ρ s w →
    ∀ Q, Leave nt ρ s a w e fr' s' Q → Code.rounds P c Q n a w := by
  intro n
  induction n with
  | zero => intro ρ fr fr' s s' a w e he; cases he
  | succ n ih =>
    intro ρ fr fr' s s' a w e he hF hR Q hQ
    simp only [iter] at he
    rw [rounds_succ]
    split at he
    · rename_i fr1 s1 h1
      refine h m ρ fr fr1 s s1 a w .normal h1 hF hR _ fun ρ1 a1 w1 g1 g2 g3 g4 => ?_
      exact ih ρ1 fr1 fr' s1 s' a1 w1 e he g1 g2 Q fun ρ' a' w' k1 k2 k3 k4 => hQ ρ' a' w' k1 k2 (g3.trans k3) (k4.trans g4)
    · rename_i hno
      refine h m ρ fr fr' s s' a w e he hF hR _ fun ρ1 a1 w1 g1 g2 g3 g4 => ?_
      cases e with
      | normal => exact absurd he (hno fr' s')
      | exit id => exact hQ ρ1 a1 w1 g1 g2 g3 g4
      | ret => exact hQ ρ1 a1 w1 g1 g2 g3 g4
theorem evC_sound {cf : CallF H} (hX : ExtOk P) (hcf : CfOk P cf) (hm : P.follows .mixedOrders = true) : ∀ (c : Code) (ac : ACode), compC P nt c = some ac → CodeOk P cf nt F c ac := by
  intro c
  induction c with
  | skip =>
    intro ac hc n ρ fr fr' s s' a w e he hF hR Q hQ
    simp only [compC] at hc; cases hc
    simp only [evC] at he; cases he
    exact wp_skip (hQ ρ a w hF hR (.refl _ _ _) rfl)
  | region id ops draw =>
    intro ac hc n ρ fr fr' s s' a w e he hF hR Q hQ
    simp only [compC] at hc
    split at hc
    · rename_i l hl
      cases draw with
      | true =>
        simp only [if_true] at hc
        split at hc
        · rename_i hg
          cases hc
          simp only [evC] at he
          split at he
          · rename_i fr1 s1 h1
            cases he
            exact evDraw_sound hX hcf hm (plan_of hl hg) hF hR h1 hQ
          · cases he
        · cases hc
      | false =>
        simp only [Bool.false_eq_true, if_false] at hc
        cases hc
        simp only [evC] at he
        split at he
        · rename_i fr1 s1 h1
          cases he
          refine wp_region ?_
          have := evOps_sound hX hcf (Q := Q) ops.toList 0 l ρ fr fr' s s' a w (fun j => by simp) hl h1 hF hR hQ
          rw [List.range_eq_range']
          simpa using this
        · cases he
    · cases hc
  | seq x y ihx ihy =>
    intro ac hc n ρ fr fr' s s' a w e he hF hR Q hQ
    simp only [compC] at hc
    split at hc
    · rename_i ax ay hx hy
      cases hc
      simp only [evC] at he
      refine wp_seq ?_
      split at he
      · rename_i fr1 s1 h1
        refine ihx ax hx n ρ fr fr1 s s1 a w .normal h1 hF hR _ fun ρ1 a1 w1 g1 g2 g3 g4 => ?_
        exact ihy ay hy n ρ1 fr1 fr' s1 s' a1 w1 e he g1 g2 Q fun ρ' a' w' k1 k2 k3 k4 => hQ ρ' a' w' k1 k2 (g3.trans k3) (k4.trans g4)
      · rename_i hno
        refine ihx ax hx n ρ fr fr' s s' a w e he hF hR _ fun ρ1 a1 w1 g1 g2 g3 g4 => ?_
        cases e with
        | normal => exact absurd he (hno fr' s')
        | exit id => exact hQ ρ1 a1 w1 g1 g2 g3 g4
        | ret => exact hQ ρ1 a1 w1 g1 g2 g3 g4
    · cases hc
  | cond c x y ihx ihy =>
    intro ac hc n ρ fr fr' s s' a w e he hF hR Q hQ
    simp only [compC] at hc
    split at hc
    · rename_i ax ay hx hy
      split at hc
      · rename_i hok
        cases hc
        have hv := hF.ev hok
        simp only [evC] at he
        split at he
        · rename_i hb
          rw [hb] at hv
          have hcv : a.eval c = .bool true := by generalize a.eval c = u at hv; cases hv; rfl
          exact wp_cond_true hcv (ihx ax hx n ρ fr fr' s s' a w e he hF hR Q hQ)
        · rename_i hb
          rw [hb] at hv
          have hcv : a.eval c = .bool false := by generalize a.eval c = u at hv; cases hv; rfl
          exact wp_cond_false hcv (ihy ay hy n ρ fr fr' s s' a w e he hF hR Q hQ)
        · cases he
      · cases hc
    · cases hc
  | block id b ih =>
    intro ac hc n ρ fr fr' s s' a w e he hF hR Q hQ
    simp only [compC] at hc
    obtain ⟨ab, hb, rfl⟩ := Option.map_eq_some_iff.1 hc
    simp only [evC] at he
    refine wp_block ?_
    split at he
    · rename_i k fr1 s1 h1
      refine ih ab hb n ρ fr fr1 s s1 a w (.exit k) h1 hF hR _ fun ρ1 a1 w1 g1 g2 g3 g4 => ?_
      simp only [exitOf, Exit.inBlock]
      split at he
      · rename_i hk
        cases he
        rw [if_pos hk]
        exact hQ ρ1 a1 w1 g1 g2 g3 g4
      · rename_i hk
        cases he
        rw [if_neg hk]
        exact hQ ρ1 a1 w1 g1 g2 g3 g4
    · rename_i hno
      refine ih ab hb n ρ fr fr' s s' a w e he hF hR _ fun ρ1 a1 w1 g1 g2 g3 g4 => ?_
      cases e with
      | normal => exact hQ ρ1 a1 w1 g1 g2 g3 g4
      | exit id => exact absurd he (hno id fr' s')
      | ret => exact hQ ρ1 a1 w1 g1 g2 g3 g4
  | loop b ih =>
    intro ac hc n ρ fr fr' s s' a w e he hF hR Q hQ
    simp only [compC] at hc
    obtain ⟨ab, hb, rfl⟩ := Option.map_eq_some_iff.1 hc
    simp only [evC] at he
    exact wp_loop_rounds n (iter_sound (ih ab hb) n n ρ fr fr' s s' a w e he hF hR Q hQ)
  | exit id =>
    intro ac hc n ρ fr fr' s s' a w e he hF hR Q hQ
    simp only [compC] at hc; cases hc
    simp only [evC] at he; cases he
    exact wp_exit (hQ ρ a w hF hR (.refl _ _ _) rfl)
  | ret =>
    intro ac hc n ρ fr fr' s s' a w e he hF hR Q hQ
    simp only [compC] at hc; cases hc
    simp only [evC] at he; cases he
    exact wp_ret (hQ ρ a w hF hR (.refl _ _ _) rfl)
  | _ =>
    intro ac hc
    simp only [compC] at hc
    cases hc
theorem results_sound {ρ : Rho} {s : AS H} {fr : F} {a : Act} {w : World} (hF : FrR ρ nt fr a) (hR : Rep ρ s w) : ∀ (rs : List ResultVar) (ars : List ARes) (vs : List Value), compRes P nt rs = some ars → resVs fr s ars = some vs →
    ∃ vs', (rs.mapM (fun r => match r with
      | .tmp t => pure (a.tmps.getD t undef)
      | .cell p t => do loadVar t (← asAddr (a.tmps.getD p undef)) : ResultVar → Sem Value)).run P w = .ok vs' w ∧ VL ρ vs vs' := by
  intro rs
  induction rs with
  | nil =>
    intro ars vs hc hv
    simp only [compRes] at hc; cases hc
    simp only [resVs] at hv; cases hv
    exact ⟨[], by simp, .nil ρ⟩
  | cons r rs ih =>
    intro ars vs hc hv
    cases r with
    | tmp t =>
      simp only [compRes] at hc
      split at hc
      · rename_i ht
        obtain ⟨ar, h1, rfl⟩ := Option.map_eq_some_iff.1 hc
        simp only [resVs, resV] at hv
        split at hv
        · rename_i v vs1 h2 h3
          cases hv; cases h2
          obtain ⟨vs', g1, g2⟩ := ih ar vs1 h1 h3
          refine ⟨a.tmps.getD t undef :: vs', ?_, .cons (hF.val t ht) g2⟩
          simp only [List.mapM_cons, Sem.run_bind, Sem.run_pure, Result.andThen_ok, g1]
        · cases hv
      · cases hc
    | cell p t =>
      simp only [compRes] at hc
      split at hc
      · rename_i n ar hn h1
        split at hc
        · rename_i hp
          cases hc
          simp only [resVs, resV] at hv
          split at hv
          · rename_i v vs1 h2 h3
            cases hv
            obtain ⟨vs', g1, g2⟩ := ih ar vs1 h1 h3
            have hx := hF.val p hp
            obtain ⟨v', k1, k2⟩ := load_sound (P := P) hR hn hx h2
            refine ⟨v' :: vs', ?_, .cons k2 g2⟩
            have hload : (do loadVar t (← asAddr (a.tmps.getD p undef)) : Sem Value).run P w = .ok v' w := by
              generalize a.tmps.getD p undef = u at *
              generalize geT fr p = u' at *
              cases hx <;> first | exact k1 | (cases n <;> cases h2; done)
            simp only [List.mapM_cons, Sem.run_bind, Sem.run_pure]
            simp only [Sem.run_bind] at hload
            rw [hload]
            simp only [Result.andThen_ok]
            rw [g1]
            rfl
          · cases hv
        · cases hc
      · cases hc
theorem VL.pack {ρ : Rho} {vs vs' : List Value} (h : VL ρ vs vs') : VR ρ (packV vs) (if h : vs'.toArray.size = 1 then vs'.toArray[0] else .tuple vs'.toArray) := by
  match vs, vs', h with
  | [], ys, h => rw [h.cases_nil]; exact VL.tup (.nil ρ)
  | [x], ys, h =>
    obtain ⟨y, ys', rfl, h1, h2⟩ := h.cases_cons
    rw [h2.cases_nil]
    simpa [packV] using h1
  | x :: x2 :: xs, ys, h =>
    obtain ⟨y, ys', rfl, h1, h2⟩ := h.cases_cons
    obtain ⟨y2, ys2, rfl, h3, h4⟩ := h2.cases_cons
    simp only [packV]
    rw [dif_neg (by simp)]
    exact VL.tup (by simpa using h)
theorem frameOf_get : ∀ (args : List Value) (i : Nat) (fr : F) (t : Nat), Store.get (frameOf args i fr) t = if i ≤ t ∧ t < i + args.length then args[t - i]? else Store.get fr t := by
  intro args
  induction args with
  | nil => intro i fr t; simp only [frameOf]; rw [if_neg (by simp only [List.length_nil]; omega)]
  | cons v args ih =>
    intro i fr t
    simp only [frameOf, ih, Store.get_put, List.length_cons]
    by_cases h1 : t = i
    · subst h1
      rw [if_neg (by omega), if_pos rfl, if_pos (by omega)]
      simp
    · by_cases h2 : i + 1 ≤ t ∧ t < i + 1 + args.length
      · rw [if_pos h2, if_pos (by omega)]
        have : t - i = (t - (i + 1)) + 1 := by omega
        rw [this]; simp
      · rw [if_neg h2, if_neg h1, if_neg (by omega)]
theorem frame_start {ρ : Rho} {args args' : List Value} (h : VL ρ args args') (hn : args.length ≤ nt) :
    FrR ρ nt (frameOf args 0 (Store.emp : F)) { tmps := args'.toArray ++ Array.replicate (nt - args'.toArray.size) undef, defers := [] } := by
  have hl := h.1
  refine ⟨by simp; omega, fun t ht => ?_⟩
  simp only [geT, frameOf_get, Nat.zero_le, true_and, Nat.zero_add, Nat.sub_zero]
  by_cases e : t < args.length
  · rw [if_pos e]
    have e' : t < args'.length := by omega
    have := h.2 t args[t] args'[t] (by simp [e]) (by simp [e'])
    simpa [e, e', Array.getD, Array.getElem_append, show t < args'.length + (nt - args'.length) by omega] using this
  · rw [if_neg e, Store.get_emp]
    have e' : ¬ t < args'.length := by omega
    have hu : VR ρ undefV undef := .undef
    simpa [e', Array.getD, Array.getElem_append, show t < args'.length + (nt - args'.length) by omega] using hu
def FnsOk (P : Program) (fns : FuncId → Option AFn) : Prop := ∀ f afn, fns f = some afn → ∃ fn, P.funcs[f]? = some fn ∧ compFn P fn = some afn ∧ fn.name ≠ "runtime.NumGoroutine"
theorem evCall_sound (hX : ExtOk P) (hm : P.follows .mixedOrders = true) {fns : FuncId → Option AFn} (hfns : FnsOk P fns) : ∀ n, CfOk (H := H) P (evCall F fns n) := by
  intro n
  induction n with
  | zero => intro f args s v s' he; cases he
  | succ n ih =>
    intro f args s v s' he ρ w args' hargs hR
    simp only [evCall] at he
    split at he
    · cases he
    · rename_i afn hafn
      obtain ⟨fn, h1, h2, h3⟩ := hfns f afn hafn
      unfold compFn at h2
      split at h2
      · rename_i c hbody
        split at h2
        · rename_i ab ar hcb hcr
          cases h2
          refine ⟨⟨fn, h1, by rw [hbody]; rfl, h3⟩, ?_⟩
          split at he
          · rename_i hlen
            refine calls_of_wp h1 hbody ?_
            split at he
            · cases he
            · rename_i ex fr1 s1 hne hev
              obtain ⟨vs, hvs, hpk⟩ := Option.map_eq_some_iff.1 he
              cases hpk
              refine evC_sound hX ih hm c ab hcb n ρ _ fr1 s s' _ w ex hev (frame_start hargs hlen) hR _ fun ρ' a' w' g1 g2 g3 g4 => ?_
              have hdone : a'.defers = [] ∧ ∃ v, (results fn a'.tmps).run P w' = .ok v w' ∧ ∃ ρ' v', Ending.returned v = Ending.returned v' ∧ VR ρ' (packV vs) v' ∧ Rep ρ' s' w' ∧ Ext ρ s w ρ' s' w' := by
                obtain ⟨vs', k1, k2⟩ := results_sound g1 g2 fn.results.toList ar vs hcr hvs
                refine ⟨g4, _, ?_, ρ', _, rfl, k2.pack, g2, g3⟩
                simp only [results]
                rw [Array.mapM_eq_mapM_toList]
                simp only [Sem.run_bind, Sem.run_map]
                erw [k1]
                rfl
              cases ex with
              | normal => exact hdone
              | exit id => exact absurd rfl (hne id)
              | ret => exact hdone
            · cases he
          · cases he
        · cases h2
      · cases h2
end
end Go.Vam
