/- Operations that touch no memory: what the abstract machine says is what the machine does. First: numbers. -/
import Derived.Test.YtpphomoijlilfaaVam3
import Derived.Laws.StructEq
namespace Go.Vam
open Go
theorem isNaN_iff {d : Ieee.Datum} : d.isNaN = true ↔ ∃ s t, d = .nan s t := by
  cases d <;> simp [Ieee.Datum.isNaN]
theorem read_nan (f : Ieee.Format) (w : Nat) (h : f.infRung < w % f.signWeight) (h2 : f.binade ≤ f.infRung) : (f.read w).isNaN = true := by
  unfold Ieee.Format.read
  rw [if_neg (by omega), if_neg (by omega), if_neg (by omega)]
  rfl
theorem nanF_nan (k : FloatKind) : fisNaN k (nanF k) = true := by cases k <;> decide
theorem read_nan_iff (f : Ieee.Format) (w : Nat) (h2 : f.binade ≤ f.infRung) : (f.read w).isNaN = true ↔ f.infRung < w % f.signWeight := by
  constructor
  · intro h
    unfold Ieee.Format.read at h
    simp only at h
    split at h
    · simp [Ieee.Datum.isNaN] at h
    · split at h
      · simp [Ieee.Datum.isNaN] at h
      · split at h
        · simp [Ieee.Datum.isNaN] at h
        · omega
  · exact fun h => read_nan f w h h2
theorem binade_le (k : FloatKind) : k.format.binade ≤ k.format.infRung := by cases k <;> decide
theorem fisNaN_iff (k : FloatKind) (w : Nat) : fisNaN k w = true ↔ k.format.infRung < w % k.format.signWeight :=
  read_nan_iff k.format w (binade_le k)
theorem FR.refl (k : FloatKind) (a : Nat) : FR k a a := .inl rfl
theorem FR.nan {k : FloatKind} {a : Nat} (h : fisNaN k a = true) : FR k (nanF k) a := .inr ⟨rfl, h⟩
theorem FR.nan_iff {k : FloatKind} {a a' : Nat} (h : FR k a a') : fisNaN k a = fisNaN k a' := by
  rcases h with h | ⟨h, g⟩
  · rw [h]
  · rw [h, nanF_nan, g]
theorem FR.eq {k : FloatKind} {a a' : Nat} (h : FR k a a') (hn : fisNaN k a = false) : a = a' := by
  rcases h with h | ⟨h, g⟩
  · exact h
  · rw [h, nanF_nan] at hn; cases hn
theorem cut_nan (k : FloatKind) (x y t : Nat) : fisNaN k ((Question.nanBits k x y).cut t) = true := by
  rw [fisNaN_iff]
  cases k
  · simp only [Question.cut, FloatKind.format, Ieee.single, Ieee.Format.infRung, Ieee.Format.binade, Ieee.Format.signWeight]
    have h := Nat.mod_lt (t / 2) (show 0 < 2 ^ 23 - 1 by decide)
    generalize t / 2 % (2 ^ 23 - 1) = r at *
    omega
  · simp only [Question.cut, FloatKind.format, Ieee.double, Ieee.Format.infRung, Ieee.Format.binade, Ieee.Format.signWeight]
    have h := Nat.mod_lt (t / 2) (show 0 < 2 ^ 52 - 1 by decide)
    generalize t / 2 % (2 ^ 52 - 1) = r at *
    omega
theorem cut_nanConv (k : FloatKind) (x t : Nat) : fisNaN k ((Question.nanConv k x).cut t) = true := by
  rw [fisNaN_iff]
  cases k
  · simp only [Question.cut, FloatKind.format, Ieee.single, Ieee.Format.infRung, Ieee.Format.binade, Ieee.Format.signWeight]
    have h := Nat.mod_lt (t / 2) (show 0 < 2 ^ 23 - 1 by decide)
    generalize t / 2 % (2 ^ 23 - 1) = r at *
    omega
  · simp only [Question.cut, FloatKind.format, Ieee.double, Ieee.Format.infRung, Ieee.Format.binade, Ieee.Format.signWeight]
    have h := Nat.mod_lt (t / 2) (show 0 < 2 ^ 52 - 1 by decide)
    generalize t / 2 % (2 ^ 52 - 1) = r at *
    omega
theorem cut_nanMinMax (k : FloatKind) (m : Bool) (x y t : Nat) : fisNaN k ((Question.nanMinMax k m x y).cut t) = true := by
  rw [fisNaN_iff]
  cases k
  · simp only [Question.cut, FloatKind.format, Ieee.single, Ieee.Format.infRung, Ieee.Format.binade, Ieee.Format.signWeight]
    have h := Nat.mod_lt (t / 2) (show 0 < 2 ^ 23 - 1 by decide)
    generalize t / 2 % (2 ^ 23 - 1) = r at *
    omega
  · simp only [Question.cut, FloatKind.format, Ieee.double, Ieee.Format.infRung, Ieee.Format.binade, Ieee.Format.signWeight]
    have h := Nat.mod_lt (t / 2) (show 0 < 2 ^ 52 - 1 by decide)
    generalize t / 2 % (2 ^ 52 - 1) = r at *
    omega
theorem nan_form {k : FloatKind} {a : Nat} (h : fisNaN k a = true) : ∃ s t, k.format.read a = .nan s t := isNaN_iff.1 h
theorem add_nan {k : FloatKind} {a b : Nat} (h : fisNaN k a = true ∨ fisNaN k b = true) : k.format.add a b = none := by
  rcases h with h | h <;> obtain ⟨s, t, e⟩ := nan_form h <;> simp only [Ieee.Format.add, e]
  · simp [Ieee.Datum.sum]
  · cases k.format.read a <;> simp [Ieee.Datum.sum]
theorem sub_nan {k : FloatKind} {a b : Nat} (h : fisNaN k a = true ∨ fisNaN k b = true) : k.format.sub a b = none := by
  rcases h with h | h <;> obtain ⟨s, t, e⟩ := nan_form h <;> simp only [Ieee.Format.sub, e]
  · simp [Ieee.Datum.sum]
  · cases k.format.read a <;> simp [Ieee.Datum.sum, Ieee.Datum.opposite]
theorem mul_nan {k : FloatKind} {a b : Nat} (h : fisNaN k a = true ∨ fisNaN k b = true) : k.format.mul a b = none := by
  rcases h with h | h <;> obtain ⟨s, t, e⟩ := nan_form h <;> simp only [Ieee.Format.mul, e]
  · simp [Ieee.Datum.product]
  · cases k.format.read a <;> simp [Ieee.Datum.product]
theorem div_nan {k : FloatKind} {a b : Nat} (h : fisNaN k a = true ∨ fisNaN k b = true) : k.format.div a b = none := by
  rcases h with h | h <;> obtain ⟨s, t, e⟩ := nan_form h <;> simp only [Ieee.Format.div, e]
  · simp [Ieee.Datum.quotient]
  · cases k.format.read a <;> simp [Ieee.Datum.quotient]
theorem ford_nan {k : FloatKind} {a b : Nat} (h : fisNaN k a = true ∨ fisNaN k b = true) : k.format.order a b = none := by
  rcases h with h | h <;> obtain ⟨s, t, e⟩ := nan_form h <;> simp only [Ieee.Format.order, e]
  · simp [Ieee.Datum.order]
  · cases k.format.read a <;> simp [Ieee.Datum.order]
theorem rel_cases {k : FloatKind} {a a' b b' : Nat} (ha : FR k a a') (hb : FR k b b') :
    (a = a' ∧ b = b') ∨ ((fisNaN k a = true ∨ fisNaN k b = true) ∧ (fisNaN k a' = true ∨ fisNaN k b' = true)) := by
  rcases ha with ha | ⟨ha, ga⟩
  · rcases hb with hb | ⟨hb, gb⟩
    · exact .inl ⟨ha, hb⟩
    · exact .inr ⟨.inr (by rw [hb]; exact nanF_nan k), .inr gb⟩
  · exact .inr ⟨.inl (by rw [ha]; exact nanF_nan k), .inl ga⟩
theorem ford_rel {k : FloatKind} {a a' b b' : Nat} (ha : FR k a a') (hb : FR k b b') : k.format.order a' b' = ford k a b := by
  rcases rel_cases ha hb with ⟨rfl, rfl⟩ | ⟨h, g⟩
  · rfl
  · rw [ford, ford_nan h, ford_nan g]
theorem Question.forced_nan (k : FloatKind) (x y : Nat) : (Question.nanBits k x y).forced = false := rfl
theorem run_choose_free (P : Program) (q : Question) (w : World) (h : q.forced = false) : (choose q).run P w = .ok (q.cut (w.tape w.drawn q)) w.drew := by
  unfold choose
  simp only [Sem.run, h, Bool.false_eq_true, if_false]
  rfl
theorem floatArith_rel (P : Program) (w : World) {op : BinOp} {k : FloatKind} {a a' b b' r : Nat} {f : Nat → Nat → Option Nat} (ha : FR k a a') (hb : FR k b b')
    (hop : ∀ x y, Op.floatArith op k x y = (do match f x y with | some r => pure (.float k r) | none => pure (.float k (← choose (.nanBits k x y)))))
    (hn : ∀ x y, (fisNaN k x = true ∨ fisNaN k y = true) → f x y = none) (hr : r = fres k (f a b)) :
    ∃ r' w', (Op.floatArith op k a' b').run P w = .ok (.float k r') w' ∧ Quiet w w' ∧ FR k r r' := by
  rw [hop]
  rcases rel_cases ha hb with ⟨rfl, rfl⟩ | ⟨h, g⟩
  · cases hf : f a b with
    | some x => rw [hf] at hr; exact ⟨x, w, by simp, .refl w, by rw [hr]; exact .refl k x⟩
    | none =>
      rw [hf] at hr
      refine ⟨_, _, by simp only [Sem.run_bind, run_choose_free P _ w (Question.forced_nan k a b), Result.andThen_ok]; rfl, .drew w, ?_⟩
      rw [hr]; exact .nan (cut_nan k _ _ _)
  · rw [hn _ _ h] at hr
    rw [hn _ _ g]
    refine ⟨_, _, by simp only [Sem.run_bind, run_choose_free P _ w (Question.forced_nan k a' b'), Result.andThen_ok]; rfl, .drew w, ?_⟩
    rw [hr]; exact .nan (cut_nan k _ _ _)
theorem hop_add (k : FloatKind) (x y : Nat) : Op.floatArith .add k x y = (do match k.format.add x y with | some r => pure (.float k r) | none => pure (.float k (← choose (.nanBits k x y)))) := rfl
theorem hop_sub (k : FloatKind) (x y : Nat) : Op.floatArith .sub k x y = (do match k.format.sub x y with | some r => pure (.float k r) | none => pure (.float k (← choose (.nanBits k x y)))) := rfl
theorem hop_mul (k : FloatKind) (x y : Nat) : Op.floatArith .mul k x y = (do match k.format.mul x y with | some r => pure (.float k r) | none => pure (.float k (← choose (.nanBits k x y)))) := rfl
theorem hop_div (k : FloatKind) (x y : Nat) : Op.floatArith .quo k x y = (do match k.format.div x y with | some r => pure (.float k r) | none => pure (.float k (← choose (.nanBits k x y)))) := rfl
section
variable (P : Program) (w : World)
theorem fadd_rel {k : FloatKind} {a a' b b' : Nat} (ha : FR k a a') (hb : FR k b b') : ∃ r' w', (Op.floatArith .add k a' b').run P w = .ok (.float k r') w' ∧ Quiet w w' ∧ FR k (fadd k a b) r' :=
  floatArith_rel P w ha hb (hop_add k) (fun _ _ h => add_nan h) rfl
theorem fsub_rel {k : FloatKind} {a a' b b' : Nat} (ha : FR k a a') (hb : FR k b b') : ∃ r' w', (Op.floatArith .sub k a' b').run P w = .ok (.float k r') w' ∧ Quiet w w' ∧ FR k (fsub k a b) r' :=
  floatArith_rel P w ha hb (hop_sub k) (fun _ _ h => sub_nan h) rfl
theorem fmul_rel {k : FloatKind} {a a' b b' : Nat} (ha : FR k a a') (hb : FR k b b') : ∃ r' w', (Op.floatArith .mul k a' b').run P w = .ok (.float k r') w' ∧ Quiet w w' ∧ FR k (fmul k a b) r' :=
  floatArith_rel P w ha hb (hop_mul k) (fun _ _ h => mul_nan h) rfl
theorem fdiv_rel {k : FloatKind} {a a' b b' : Nat} (ha : FR k a a') (hb : FR k b b') : ∃ r' w', (Op.floatArith .quo k a' b').run P w = .ok (.float k r') w' ∧ Quiet w w' ∧ FR k (fdiv k a b) r' :=
  floatArith_rel P w ha hb (hop_div k) (fun _ _ h => div_nan h) rfl
end
def Gives (P : Program) (ρ : Rho) (w : World) (m : Sem Value) (v : Value) : Prop := ∃ v' w', m.run P w = .ok v' w' ∧ Quiet w w' ∧ VR ρ v v'
theorem Gives.same {P : Program} {ρ : Rho} {w : World} {m : Sem Value} {v v' : Value} (h : m.run P w = .ok v' w) (g : VR ρ v v') : Gives P ρ w m v := ⟨v', w, h, .refl w, g⟩
theorem intBits_run (P : Program) (w : World) {op : BinOp} {k : IntKind} {a b r : Int} (h : intBitsV op k a b = some r) : (Op.intBits op k a b).run P w = .ok (.int k r) w := by
  unfold intBitsV at h
  cases op <;> simp at h <;> subst h <;> simp [Op.intBits, wrapK_eq]
theorem shift_run (P : Program) (w : World) {op : BinOp} {k yk : IntKind} {a b r : Int} (h : shiftV op k a b = some r) : (Op.shift op k a yk b).run P w = .ok (.int k r) w := by
  unfold shiftV at h
  unfold Op.shift
  split at h
  · cases h
  · rename_i hb
    rw [if_neg hb]
    cases op <;> simp at h <;> subst h <;> simp [wrapK_eq]
theorem binV_sound (P : Program) (ρ : Rho) (w : World) (op : BinOp) (t : TypeId) (X Y : Operand) {x y x' y' v : Value} (hx : VR ρ x x') (hy : VR ρ y y')
    (h : binV op x y = some v) : Gives P ρ w (do eqGuard op t X Y x' y'; binOp op t x' y') v := by
  cases hx with
  | int k a =>
    cases hy with
    | int k' b =>
      have hg : eqGuard op t X Y (.int k a) (.int k' b) = pure () := by cases op <;> rfl
      rw [hg]
      simp only [binV] at h
      cases op <;> simp only at h
      case shl => cases hs : shiftV .shl k a b with
        | none => simp [hs] at h
        | some r => simp [hs] at h; subst h; exact .same (by simpa [binOp] using shift_run P w hs) (.int _ _)
      case shr => cases hs : shiftV .shr k a b with
        | none => simp [hs] at h
        | some r => simp [hs] at h; subst h; exact .same (by simpa [binOp] using shift_run P w hs) (.int _ _)
      case and | or | xor | andNot =>
        split at h
        · rename_i e; subst e
          obtain ⟨r, hr, rfl⟩ := Option.map_eq_some_iff.1 h
          exact .same (by simpa [binOp] using intBits_run P w hr) (.int _ _)
        · cases h
      case quo | rem =>
        split at h
        · rename_i e
          obtain ⟨e, e0⟩ := e
          subst e
          cases h
          exact .same (by simp only [binOp, Sem.run_bind, Sem.run_pure, Result.andThen_ok, ne_eq, not_true_eq_false, if_false, Op.intDiv, e0, wrapK_eq]) (.int _ _)
        · cases h
      all_goals
        split at h
        · rename_i e
          subst e
          cases h
          first
            | exact .same (by simp [binOp, Op.intArith, wrapK_eq]; done) (.int _ _)
            | exact .same (by simp [binOp, Op.intCmp]; done) (.bool _)
        · cases h
    | _ => simp [binV] at h
  | float ha =>
    rename_i k a a'
    cases hy with
    | float hb =>
      rename_i k' b b'
      have hg : eqGuard op t X Y (.float k a') (.float k' b') = pure () := by cases op <;> rfl
      rw [hg]
      simp only [binV] at h
      split at h
      · rename_i e; subst e
        have hord := ford_rel ha hb
        cases op <;> simp only [Option.some.injEq, reduceCtorEq] at h
        case add => subst h; obtain ⟨r', w', h1, h2, h3⟩ := fadd_rel P w ha hb; exact ⟨_, w', by simpa [binOp] using h1, h2, .float h3⟩
        case sub => subst h; obtain ⟨r', w', h1, h2, h3⟩ := fsub_rel P w ha hb; exact ⟨_, w', by simpa [binOp] using h1, h2, .float h3⟩
        case mul => subst h; obtain ⟨r', w', h1, h2, h3⟩ := fmul_rel P w ha hb; exact ⟨_, w', by simpa [binOp] using h1, h2, .float h3⟩
        case quo => subst h; obtain ⟨r', w', h1, h2, h3⟩ := fdiv_rel P w ha hb; exact ⟨_, w', by simpa [binOp] using h1, h2, .float h3⟩
        all_goals
          subst h
          exact .same (by simp [binOp, Op.floatCmp, hord]; done) (.bool _)
      · cases h
    | _ => simp [binV] at h
  | complex ha hb =>
    rename_i k a b a' b'
    cases hy with
    | complex hc hd =>
      rename_i k' c d c' d'
      have hg : eqGuard op t X Y (.complex k a' b') (.complex k' c' d') = pure () := by cases op <;> rfl
      rw [hg]
      simp only [binV] at h
      split at h
      · rename_i e; subst e
        have ho1 := ford_rel ha hc
        have ho2 := ford_rel hb hd
        cases op <;> simp only [Option.some.injEq, reduceCtorEq] at h
        case add =>
          subst h
          obtain ⟨r1, w1, h1, h2, h3⟩ := fadd_rel P w ha hc
          obtain ⟨r2, w2, g1, g2, g3⟩ := fadd_rel P w1 hb hd
          exact ⟨.complex k r1 r2, w2, by simp [binOp, Op.complexOp, Op.Complex.arith, h1, g1], h2.trans g2, .complex h3 g3⟩
        case sub =>
          subst h
          obtain ⟨r1, w1, h1, h2, h3⟩ := fsub_rel P w ha hc
          obtain ⟨r2, w2, g1, g2, g3⟩ := fsub_rel P w1 hb hd
          exact ⟨.complex k r1 r2, w2, by simp [binOp, Op.complexOp, Op.Complex.arith, h1, g1], h2.trans g2, .complex h3 g3⟩
        case eql =>
          subst h
          exact .same (by simp [binOp, Op.complexOp, Op.Complex.cmp, Op.floatCmp, asBool, ho1, ho2]; done) (.bool _)
        case neq =>
          subst h
          exact .same (by simp [binOp, Op.complexOp, Op.Complex.cmp, Op.floatCmp, asBool, ho1, ho2]; done) (.bool _)
      · cases h
    | _ => simp [binV] at h
  | string a =>
    cases hy with
    | string b =>
      have hg : eqGuard op t X Y (.string a) (.string b) = pure () := by cases op <;> rfl
      rw [hg]
      simp only [binV] at h
      cases op <;> simp only [Option.some.injEq, reduceCtorEq] at h
      case add =>
        split at h
        · rename_i hl
          cases h
          refine .same ?_ (.string _)
          have : ¬ ((a.size + b.size : Nat) : Int) > IntKind.i64.max := by simp [IntKind.max, IntKind.signed, IntKind.bits]; omega
          simp only [binOp, Op.stringOp, Sem.run_bind, Sem.run_pure, Result.andThen_ok]
          rw [if_neg this]; rfl
        · cases h
      all_goals
        subst h
        exact .same (by simp [binOp, Op.stringOp]; done) (.bool _)
    | _ => simp [binV] at h
  | _ => simp [binV] at h
end Go.Vam
