/- Functions of the library that are taken as they are known. -/
import Derived.Test.YtpphomoijlilfaaVam23
import Derived.Laws.Externs
namespace Go.Vam
open Go
section
variable {P : Program}
def ExtOne (P : Program) (g : FuncId) (e : Nat) : Prop :=
  ∀ (ρ : Rho) (args args' : List Value) (v : Value) (w : World), VL ρ args args' → extV e args = some v →
    (∃ v' w', (callFunc g args'.toArray).run P w = .ok (.value v') w' ∧ Quiet w w' ∧ VR ρ v v') ∨
    ((callFunc g args'.toArray).run P w = .ok (.enter g args'.toArray) w ∧ Calls P g args'.toArray w fun e w' => ∃ v', e = .returned v' ∧ Quiet w w' ∧ VR ρ v v')
def extIds : List Func → Nat → List (Nat × Nat)
  | [], _ => []
  | fn :: l, i => match extName fn.name with
    | some e => (i, e) :: extIds l (i + 1)
    | none => extIds l (i + 1)
theorem extIds_mem : ∀ (l : List Func) (i k : Nat) (fn : Func) (e : Nat), l[k]? = some fn → extName fn.name = some e → (i + k, e) ∈ extIds l i := by
  intro l
  induction l with
  | nil => intro i k fn e h; simp at h
  | cons f l ih =>
    intro i k fn e h he
    cases k with
    | zero =>
      simp at h; subst h
      simp only [extIds, he]
      exact List.mem_cons_self ..
    | succ k =>
      simp at h
      have := ih (i + 1) k fn e h he
      have e1 : i + (k + 1) = i + 1 + k := by omega
      rw [e1]
      simp only [extIds]
      split
      · exact List.mem_cons_of_mem _ this
      · exact this
theorem extOk_of {L : List (Nat × Nat)} (h : extIds P.funcs.toList 0 = L) (hL : ∀ p ∈ L, ExtOne P p.1 p.2) : ExtOk P := by
  intro g fn e hf he
  have := extIds_mem P.funcs.toList 0 g fn e (by simpa using hf) he
  rw [h, Nat.zero_add] at this
  exact hL _ this
structure ExtRow (P : Program) (g : FuncId) (x : Array Value → Sem Value) : Prop where
  row : ∃ fn, P.funcs[g]? = some fn ∧ (fn.name == "runtime.NumGoroutine") = false ∧ fn.body.isNone = true ∧ Extern.findNext fn = none ∧ Extern.find fn = some x
theorem ExtRow.run {g : FuncId} {x : Array Value → Sem Value} (h : ExtRow P g x) (args : Array Value) (w : World) :
    (callFunc g args).run P w = ((x args).run P w).andThen fun v w' => .ok (.value v) w' := by
  obtain ⟨fn, h1, h2, h3, h4, h5⟩ := h.row
  exact run_callFunc_extern h1 h2 h3 h4 h5 args w
theorem VL.one {ρ : Rho} {x : Value} {ys : List Value} (h : VL ρ [x] ys) : ∃ y, ys = [y] ∧ VR ρ x y := by
  obtain ⟨y, ys', rfl, h1, h2⟩ := h.cases_cons
  rw [h2.cases_nil]
  exact ⟨y, rfl, h1⟩
theorem ext0 {args : List Value} {v : Value} (h : extV 0 args = some v) : ∃ b, args = [.float .f64 b] ∧ fknown .f64 b = true ∧ v = .int .u64 b := by
  unfold extV at h
  split at h
  case h_1 b _ =>
    split at h
    · rename_i hk; cases h; exact ⟨b, rfl, hk, rfl⟩
    · cases h
  all_goals simp_all
theorem ext1 {args : List Value} {v : Value} (h : extV 1 args = some v) : ∃ n, args = [.int .u64 n] ∧ v = .float .f64 n.toNat := by
  unfold extV at h
  split at h
  case h_2 n _ =>
    split at h
    · cases h; exact ⟨n, rfl, rfl⟩
    · cases h
  all_goals simp_all
theorem ext5 {args : List Value} {v : Value} (h : extV 5 args = some v) : ∃ b, args = [.float .f64 b] ∧ v = .float .f64 (fabs b) := by
  unfold extV at h
  split at h
  case h_6 => cases h; exact ⟨_, rfl, rfl⟩
  all_goals simp_all
def integV (way : Ieee.Toward) (b : Nat) : Nat := match FloatKind.f64.decode b with
  | .nan _ _ => nanF .f64
  | d => FloatKind.f64.encode (d.integral way)
theorem VR.of_float {ρ : Rho} {k : FloatKind} {b : Nat} {y : Value} (h : VR ρ (.float k b) y) : ∃ b', y = .float k b' ∧ FR k b b' := by
  cases h with
  | float h => exact ⟨_, rfl, h⟩
theorem ext_bits {g : FuncId} (h : ExtRow P g Extern.MathFloatBits.float64bits) : ExtOne P g 0 := by
  intro ρ args args' v w hargs hv
  obtain ⟨b, rfl, hk, rfl⟩ := ext0 hv
  obtain ⟨y, rfl, hy⟩ := hargs.one
  obtain ⟨b', rfl, hfr⟩ := hy.of_float
  left
  rcases hfr with rfl | ⟨rfl, _⟩
  · exact ⟨.int .u64 b, w, by rw [h.run]; rfl, .refl w, .int .u64 b⟩
  · simp [fknown] at hk
theorem ext_frombits {g : FuncId} (h : ExtRow P g Extern.MathFloatBits.float64frombits) : ExtOne P g 1 := by
  intro ρ args args' v w hargs hv
  obtain ⟨n, rfl, rfl⟩ := ext1 hv
  obtain ⟨y, rfl, hy⟩ := hargs.one
  left
  cases hy
  exact ⟨.float .f64 n.toNat, w, by rw [h.run]; rfl, .refl w, .float (.inl rfl)⟩
def integS (way : Ieee.Toward) (x : Nat) : Sem Value := match FloatKind.f64.decode x with
  | .nan s t =>
    if FloatKind.f64.format.quiet t = t then pure (.float .f64 x) else do
    let kept ← choose (.extern "math.Floor,Ceil,Trunc,RoundToEven.signallingNaN kept" 2)
    pure (.float .f64 (if kept == 1 then x else FloatKind.f64.encode (.nan s (FloatKind.f64.format.quiet t))))
  | d => pure (.float .f64 (FloatKind.f64.encode (d.integral way)))
theorem fabs_rel {b b' : Nat} (h : FR .f64 b b') : FR .f64 (fabs b) (b' % 9223372036854775808) := by
  unfold fabs
  have key : fisNaN .f64 b' = true → fisNaN .f64 (b' % 9223372036854775808) = true := fun hn => by
    rw [fisNaN_iff] at hn ⊢
    have hs : FloatKind.f64.format.signWeight = 9223372036854775808 := rfl
    rw [hs] at hn ⊢
    rw [Nat.mod_mod]; exact hn
  rw [h.nan_iff]
  split
  · rename_i hn; exact FR.nan (key hn)
  · rename_i hn
    rw [h.eq (by rw [h.nan_iff]; simpa using hn)]
    exact .inl rfl
theorem ext_abs {g : FuncId} (h0 : ∃ fn, P.funcs[g]? = some fn ∧ fn.body.isSome ∧ fn.name ≠ "runtime.NumGoroutine")
    (h : ∀ (b : Nat) (w : World), Calls P g #[.float .f64 b] w fun e w' => e = .returned (.float .f64 (b % 9223372036854775808)) ∧ Quiet w w') : ExtOne P g 5 := by
  intro ρ args args' v w hargs hv
  obtain ⟨b, rfl, rfl⟩ := ext5 hv
  obtain ⟨y, rfl, hy⟩ := hargs.one
  obtain ⟨b', rfl, hfr⟩ := hy.of_float
  right
  refine ⟨run_callFunc_enter h0, (h b' w).mono fun e w' he => ?_⟩
  exact ⟨_, he.1, he.2, .float (fabs_rel hfr)⟩
end
end Go.Vam
