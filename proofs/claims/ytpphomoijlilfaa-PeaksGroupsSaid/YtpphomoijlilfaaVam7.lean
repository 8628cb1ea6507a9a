/- All operations that touch no memory. -/
import Derived.Test.YtpphomoijlilfaaVam6
namespace Go.Vam
open Go
section
variable {P : Program} {ρ : Rho} {w : World} {F : Type} [Store F Value]
def NextV (P : Program) (ρ : Rho) (w : World) (m : Sem Next) (v : Value) : Prop := ∃ v' w', m.run P w = .ok (.value v') w' ∧ Quiet w w' ∧ VR ρ v v'
theorem Gives.next {m : Sem Value} {v : Value} (h : Gives P ρ w m v) : NextV P ρ w (do pure (.value (← m))) v := by
  obtain ⟨v', w', h1, h2, h3⟩ := h
  exact ⟨v', w', by simp only [Sem.run_bind, h1, Result.andThen_ok, Sem.run_pure], h2, h3⟩
theorem OR.map {nt : Nat} {fr : F} {a : Act} (h : FrR ρ nt fr a) {x : Option Operand} (hx : x.toArray.all (oprOk nt) = true) : OR ρ (x.map (evO fr)) (x.map a.eval) := by
  cases x with
  | none => trivial
  | some x => exact h.ev (by simpa using hx)
theorem arr1 {α : Type} {xs : Array α} {x : α} (h : xs.toList = [x]) : xs = #[x] := by
  apply Array.ext'; simpa using h
theorem arr2 {α : Type} {xs : Array α} {x y : α} (h : xs.toList = [x, y]) : xs = #[x, y] := by
  apply Array.ext'; simpa using h
theorem exec_builtin {o : Oper} {a : Act} {b : Builtin} {args : Array Operand} {ts : Array TypeId} (hop : o.op = .call ⟨.builtin b, args, ts⟩) (m : Sem Value) (v : Value)
    (hb : ∀ consts, builtin b ts o.type consts (args.map a.eval) = (do pure (.value (← m)))) (hg : Gives P ρ w m v) : NextV P ρ w (execOp a.eval o) v := by
  have := hg.next
  unfold NextV at this ⊢
  simp only [execOp, hop, resolve, Sem.run_bind, Sem.run_pure, Result.andThen_ok, invoke]
  rw [hb]
  exact this
theorem compCall_pur {c : Call} {ao : AOp} {o : Oper} {nt : Nat} {a : Act} {fr : F} {v : Value} (hop : o.op = .call c) (hc : compCall P c = some ao) (hk : ao.kind = .pur)
    (ho : c.operands.all (oprOk nt) = true) (hF : FrR ρ nt fr a) (hv : pureV fr ao = some v) : NextV P ρ w (execOp a.eval o) v := by
  obtain ⟨callee, args, argTypes⟩ := c
  simp only [compCall] at hc
  cases callee with
  | invoke r m => simp at hc
  | value f =>
    simp only at hc
    split at hc
    · split at hc
      · split at hc
        · cases hc; simp [AOp.kind] at hk
        · split at hc
          · cases hc
          · cases hc; simp [AOp.kind] at hk
      · cases hc
    · cases hc; simp [AOp.kind] at hk
  | builtin b =>
    have hargs : args.all (oprOk nt) = true := by simpa [Call.operands] using ho
    have hvl := hF.evs hargs
    cases b <;> simp only [reduceCtorEq] at hc
    case append =>
      split at hc
      · split at hc
        · split at hc
          · cases hc
          · split at hc
            · cases hc; simp [AOp.kind] at hk
            · cases hc
        · cases hc
      · cases hc
    case cap =>
      split at hc
      · rename_i xt x h1 h2
        split at hc
        · rename_i e he
          cases hc
          obtain rfl := arr1 h1
          obtain rfl := arr1 h2
          have hx := hF.ev (x := x) (by simpa using hargs)
          simp only [pureV, List.map_cons, List.map_nil] at hv
          refine exec_builtin hop (Builtin.cap_ #[xt] o.type (#[x].map a.eval)) v (fun _ => rfl) ?_
          generalize evO fr x = y at *
          simp only [List.map_toArray, List.map_cons, List.map_nil]
          generalize a.eval x = y' at *
          cases hx <;> simp only [buV] at hv <;> first | (cases hv; done) | skip
          all_goals
            split at hv
            · rename_i hlt
              cases hv
              first
                | exact absurd hlt (by omega)
                | exact absurd hlt (by rw [Nat.mul_add]; omega)
                | exact .same (by simp [Builtin.cap_, run_underlying he, goInt]; done) (.int _ _)
            · first
                | (cases hv; done)
                | exact absurd ‹_ < OPEN› ‹¬ _ < OPEN›
        · cases hc
      · cases hc
    case copy =>
      split at hc
      · split at hc
        · obtain ⟨e, _, rfl⟩ := Option.map_eq_some_iff.1 hc; simp [AOp.kind] at hk
        · cases hc
      · cases hc
    case delete =>
      split at hc
      · split at hc
        · obtain ⟨e, _, rfl⟩ := Option.map_eq_some_iff.1 hc; simp [AOp.kind] at hk
        · cases hc
      · cases hc
    case complex =>
      split at hc
      · rename_i x y h2
        cases hc
        obtain rfl := arr2 h2
        simp at hargs
        have hx := hF.ev hargs.1
        have hy := hF.ev hargs.2
        simp only [pureV, List.map_cons, List.map_nil] at hv
        refine exec_builtin hop (Builtin.complex_ argTypes o.type (#[x, y].map a.eval)) v (fun _ => rfl) ?_
        simp only [List.map_toArray, List.map_cons, List.map_nil]
        generalize evO fr x = u at *
        generalize a.eval x = u' at *
        generalize evO fr y = z at *
        generalize a.eval y = z' at *
        cases hx <;> simp only [buV] at hv <;> first | (cases hv; done) | skip
        cases hy <;> simp only at hv <;> first | (cases hv; done) | skip
        split at hv
        · rename_i e; subst e; cases hv
          rename_i k a a' ha b b' hb
          have e : Builtin.complex_ argTypes o.type #[.float k a', .float k b'] = (if k = k then pure (.complex k a' b') else stuck "complex: parts of different kinds") := rfl
          rw [e, if_pos rfl]
          exact .same rfl (.complex ha hb)
        · cases hv
      · cases hc
    case imag =>
      split at hc
      · rename_i x h2
        cases hc
        obtain rfl := arr1 h2
        have hx := hF.ev (x := x) (by simpa using hargs)
        simp only [pureV, List.map_cons, List.map_nil] at hv
        refine exec_builtin hop (Builtin.imag_ argTypes o.type (#[x].map a.eval)) v (fun _ => rfl) ?_
        simp only [List.map_toArray, List.map_cons, List.map_nil]
        generalize evO fr x = u at *
        generalize a.eval x = u' at *
        cases hx <;> simp only [buV] at hv <;> first | (cases hv; done) | skip
        cases hv
        exact .same rfl (.float (by assumption))
      · cases hc
    case real =>
      split at hc
      · rename_i x h2
        cases hc
        obtain rfl := arr1 h2
        have hx := hF.ev (x := x) (by simpa using hargs)
        simp only [pureV, List.map_cons, List.map_nil] at hv
        refine exec_builtin hop (Builtin.real_ argTypes o.type (#[x].map a.eval)) v (fun _ => rfl) ?_
        simp only [List.map_toArray, List.map_cons, List.map_nil]
        generalize evO fr x = u at *
        generalize a.eval x = u' at *
        cases hx <;> simp only [buV] at hv <;> first | (cases hv; done) | skip
        cases hv
        exact .same rfl (.float (by assumption))
      · cases hc
    case len =>
      split at hc
      · rename_i xt x h1 h2
        obtain rfl := arr1 h1
        obtain rfl := arr1 h2
        have hx := hF.ev (x := x) (by simpa using hargs)
        refine exec_builtin hop (Builtin.len_ #[xt] o.type (#[x].map a.eval)) v (fun _ => rfl) ?_
        simp only [List.map_toArray, List.map_cons, List.map_nil]
        split at hc
        · rename_i he
          cases hc
          simp only [pureV, List.map_cons, List.map_nil] at hv
          generalize evO fr x = u at *
          generalize a.eval x = u' at *
          cases hx <;> simp only [buV] at hv <;> first | (cases hv; done) | skip
          cases hv
          exact .same (by simp [Builtin.len_, run_underlying he, goInt]) (.int _ _)
        · rename_i e he
          cases hc
          simp only [pureV, List.map_cons, List.map_nil] at hv
          generalize evO fr x = u at *
          generalize a.eval x = u' at *
          cases hx <;> simp only [buV] at hv <;> first | (cases hv; done) | skip
          all_goals
            cases hv
            exact .same (by simp [Builtin.len_, run_underlying he, goInt]) (.int _ _)
        · cases hc; simp [AOp.kind] at hk
        · rename_i n e he
          cases hc
          simp only [pureV, evO, Option.some.injEq] at hv
          subst hv
          exact .same (by simp [Builtin.len_, run_underlying he, goInt]) (.int _ _)
        · rename_i pe he
          split at hc
          · rename_i n e he2
            cases hc
            simp only [pureV, evO, Option.some.injEq] at hv
            subst hv
            exact .same (by simp [Builtin.len_, run_underlying he, run_underlying he2, goInt]) (.int _ _)
          · cases hc
        · cases hc
      · cases hc
    case max =>
      cases hc
      simp only [pureV] at hv
      refine exec_builtin hop (Builtin.max_ argTypes o.type (args.map a.eval)) v (fun _ => rfl) ?_
      generalize args.toList.map (evO fr) = l at *
      cases l with
      | nil => simp [buV] at hv
      | cons x l =>
        obtain ⟨y, ys, e, h1, h2⟩ := hvl.cases_cons
        simp only [Builtin.max_, e]
        simp only [buV] at hv
        exact fold_sound (fun w x y x' y' v hx hy h => max2_sound hx hy h) l ys w x y v h1 h2 hv
    case min =>
      cases hc
      simp only [pureV] at hv
      refine exec_builtin hop (Builtin.min_ argTypes o.type (args.map a.eval)) v (fun _ => rfl) ?_
      generalize args.toList.map (evO fr) = l at *
      cases l with
      | nil => simp [buV] at hv
      | cons x l =>
        obtain ⟨y, ys, e, h1, h2⟩ := hvl.cases_cons
        simp only [Builtin.min_, e]
        simp only [buV] at hv
        exact fold_sound (fun w x y x' y' v hx hy h => min2_sound hx hy h) l ys w x y v h1 h2 hv
end
end Go.Vam
