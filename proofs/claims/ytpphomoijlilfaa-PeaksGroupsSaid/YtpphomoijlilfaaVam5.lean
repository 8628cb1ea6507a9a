/- Operations that touch no memory, continued: equality, parts, addresses, slices, what is built. -/
import Derived.Test.YtpphomoijlilfaaVam4
namespace Go.Vam
open Go
theorem add_none (B off n : Nat) : (Addr.add ⟨B, off, none⟩ n) = ⟨B, off + n, none⟩ := by
  unfold Addr.add; split
  · rename_i h; subst h; rfl
  · rfl
section
variable {P : Program} {ρ : Rho} {w : World}
theorem run_sizeT {t : TypeId} {n : Nat} (h : sizeT P t = some n) : (sizeOf t).run P w = .ok n w := by
  obtain ⟨i, hi, rfl⟩ := Option.map_eq_some_iff.1 h
  simp [sizeOf, typeInfo, hi]
theorem run_typeInfo' {t : TypeId} {i : TypeInfo} (h : P.info? t = some i) : (typeInfo t).run P w = .ok i w := by simp [typeInfo, h]
theorem run_isAgg' {t : TypeId} {d : TypeDesc} (h : P.underlying t = some d) : (isAgg t).run P w = .ok (aggB d) w := by
  simp only [isAgg, Sem.run_bind, run_underlying h, Result.andThen_ok]
  cases d <;> rfl
theorem partN_spec {t : TypeId} {n : Option Nat} (h : partN P t = some n) :
    ∃ d i, P.underlying t = some d ∧ P.info? t = some i ∧ n = if aggB d then some i.size else none := by
  unfold partN at h
  split at h
  · rename_i d i hd hi
    refine ⟨d, i, hd, hi, ?_⟩
    split at h <;> simp_all
  · cases h
theorem part_sound {t : TypeId} {n : Option Nat} {xs : List Value} {ys : Array Value} {off : Nat} {v : Value} (hn : partN P t = some n) (hv : partV xs off n = some v) (hx : VL ρ xs ys.toList) :
    ∃ v', (part t ys off).run P w = .ok v' w ∧ VR ρ v v' := by
  obtain ⟨d, i, hd, hi, rfl⟩ := partN_spec hn
  unfold part
  simp only [Sem.run_bind, run_isAgg' hd, Result.andThen_ok]
  cases ha : aggB d with
  | true =>
    rw [ha] at hv
    simp only [if_true] at hv ⊢
    unfold partV at hv
    split at hv
    · rename_i e; cases e
    · rename_i m e
      cases e
      split at hv
      · rename_i hl
        cases hv
        refine ⟨_, by simp only [Sem.run_bind, run_sizeT (show sizeT P t = some i.size by simp [sizeT, hi]), Result.andThen_ok]; rfl, ?_⟩
        refine VL.agg ?_
        have := (hx.drop off).take i.size
        simpa [Array.toList_extract, List.extract_eq_take_drop] using this
      · cases hv
  | false =>
    rw [ha] at hv
    simp only [Bool.false_eq_true, if_false] at hv ⊢
    simp only [partV] at hv
    obtain ⟨v', h1, h2⟩ := hx.get hv
    rw [Array.getElem?_toList] at h1
    exact ⟨v', by rw [h1]; rfl, h2⟩
theorem mapM_cons_some {α β : Type} {f : α → Option β} {x : α} {xs : List α} {l : List β} (h : (x :: xs).mapM f = some l) : ∃ y ys, f x = some y ∧ xs.mapM f = some ys ∧ l = y :: ys := by
  simp only [List.mapM_cons] at h
  cases hf : f x with
  | none => simp [hf] at h
  | some y =>
    cases hg : xs.mapM f with
    | none => simp [hf, hg] at h
    | some ys => simp [hf, hg] at h; exact ⟨y, ys, rfl, rfl, h.symm⟩
theorem eqFields_sound {n : Nat} (ih : ∀ (t : TypeId) (a : ATy), atyOf P n t = some a → ∀ (d : Nat), n ≤ d → ∀ (x y x' y' : Value) (b : Bool), VR ρ x x' → VR ρ y y' → eqV a x y = some b →
    (Op.equalIn d t x' y').run P w = .ok b w) (d : Nat) (hd : n ≤ d) (xs ys : List Value) (xs' ys' : Array Value) (hx : VL ρ xs xs'.toList) (hy : VL ρ ys ys'.toList) :
    ∀ (fs : List Field) (l : List (Nat × Option Nat × ATy)) (b : Bool),
      (fs.mapM fun f => if f.name = "_" then none else match partN P f.type, atyOf P n f.type with
        | some m, some a => some (f.offset, m, a)
        | _, _ => none) = some l → eqFs l xs ys = some b → (Op.eqFields d xs' ys' fs).run P w = .ok b w := by
  intro fs
  induction fs with
  | nil =>
    intro l b h hb
    simp at h; subst h
    simp [eqFs] at hb; subst hb
    rfl
  | cons f fs ihf =>
    intro l b h hb
    obtain ⟨y, l', h1, h2, rfl⟩ := mapM_cons_some h
    split at h1
    · cases h1
    · rename_i hname
      split at h1
      · rename_i m a hm ha
        cases h1
        simp only [eqFs] at hb
        split at hb
        · rename_i u v hu hv
          obtain ⟨u', r1, r2⟩ := part_sound (P := P) (ρ := ρ) (w := w) hm hu hx
          obtain ⟨v', r3, r4⟩ := part_sound (P := P) (ρ := ρ) (w := w) hm hv hy
          cases he : eqV a u v with
          | none => rw [he] at hb; cases hb
          | some c =>
            rw [he] at hb
            have r5 := ih f.type a ha d hd u v u' v' c r2 r4 he
            simp only [Op.eqFields]
            rw [if_pos hname]
            simp only [Sem.run_bind, r1, r3, r5, Result.andThen_ok]
            cases c with
            | true => simp only [Bool.not_true, Bool.false_eq_true, if_false]; exact ihf l' b h2 hb
            | false => cases hb; simp
        · cases hb
      · cases h1
inductive EqSh (ρ : Rho) : ATy → Value → Value → Value → Value → Bool → Prop
  | bool (p q : Bool) : EqSh ρ .bool (.bool p) (.bool q) (.bool p) (.bool q) (p == q)
  | int (k : IntKind) (p q : Int) : EqSh ρ .int (.int k p) (.int k q) (.int k p) (.int k q) (p == q)
  | float {k : FloatKind} {p q p' q' : Nat} (h : FR k p p') (g : FR k q q') : EqSh ρ .float (.float k p) (.float k q) (.float k p') (.float k q') (ford k p q == some .eq)
  | complex {k : FloatKind} {a b c d a' b' c' d' : Nat} (h1 : FR k a a') (h2 : FR k b b') (h3 : FR k c c') (h4 : FR k d d') :
      EqSh ρ .complex (.complex k a b) (.complex k c d) (.complex k a' b') (.complex k c' d') ((ford k a c == some .eq) && (ford k b d == some .eq))
  | str (p q : ByteArray) : EqSh ρ .str (.string p) (.string q) (.string p) (.string q) (p.toList == q.toList)
  | ptr {x y : Value} {p q : Option Addr} (h : p = none ∨ q = none) : EqSh ρ .ptr x y (.pointer p) (.pointer q) (p.isNone && q.isNone)
  | slice {x y : Value} {p q : Option Addr} {n c m d : Nat} (h : p = none ∨ q = none) : EqSh ρ .slice x y (.slice p n c) (.slice q m d) (p.isNone && q.isNone)
  | map {x y : Value} {p q : Option Nat} (h : p = none ∨ q = none) : EqSh ρ .map x y (.map p) (.map q) (p.isNone && q.isNone)
  | funcN : EqSh ρ .func .nilFunc .nilFunc .nilFunc .nilFunc true
  | funcL {y : Value} {fn : Fn} {f c : Array Value} : EqSh ρ .func .nilFunc y .nilFunc (.func fn f c) false
  | funcR {x : Value} {fn : Fn} {f c : Array Value} : EqSh ρ .func x .nilFunc (.func fn f c) .nilFunc false
  | struct {fs : List (Nat × Option Nat × ATy)} {xs ys xs' ys' : Array Value} {b : Bool} (hx : VL ρ xs.toList xs'.toList) (hy : VL ρ ys.toList ys'.toList) (h : eqFs fs xs.toList ys.toList = some b) :
      EqSh ρ (.struct fs) (.agg xs) (.agg ys) (.agg xs') (.agg ys') b
theorem eqSh (a : ATy) (x y x' y' : Value) (b : Bool) (hx : VR ρ x x') (hy : VR ρ y y') (h : eqV a x y = some b) : EqSh ρ a x y x' y' b := by
  unfold eqV at h
  split at h
  · cases hx; cases hy; cases h; exact .bool _ _
  · cases hx; cases hy; split at h
    · rename_i e; subst e; cases h; exact .int _ _ _
    · cases h
  · cases hx; cases hy; split at h
    · rename_i e; subst e; cases h; exact .float (by assumption) (by assumption)
    · cases h
  · cases hx; cases hy; split at h
    · rename_i e; subst e; cases h; exact .complex (by assumption) (by assumption) (by assumption) (by assumption)
    · cases h
  · cases hx; cases hy; cases h; exact .str _ _
  · cases hx; cases hy
    · cases h; exact .ptr (.inl rfl)
    · cases h; exact .ptr (.inl rfl)
  · cases hy; cases hx; cases h; exact .ptr (.inr rfl)
  · cases hx; cases hy
    · cases h; exact .slice (.inl rfl)
    · cases h; exact .slice (.inl rfl)
    · cases h; exact .slice (.inl rfl)
    · cases h; exact .slice (.inl rfl)
    · cases h; exact .slice (.inl rfl)
  · cases hy; cases hx
    · cases h; exact .slice (.inr rfl)
    · cases h; exact .slice (.inr rfl)
    · cases h; exact .slice (.inr rfl)
    · cases h; exact .slice (.inr rfl)
  · cases hx; cases hy
    · cases h; exact .map (.inl rfl)
    · cases h; exact .map (.inl rfl)
  · cases hy; cases hx; cases h; exact .map (.inr rfl)
  · cases hx; cases hy; cases h; exact .funcN
  · cases hx; cases hy; cases h; exact .funcL
  · cases hx; cases hy; cases h; exact .funcR
  · cases hx with
    | agg h1 h2 => cases hy with
      | agg h3 h4 => exact .struct ⟨h1, h2⟩ ⟨h3, h4⟩ h
  · cases h
theorem eqV_sound (n : Nat) : ∀ (t : TypeId) (a : ATy), atyOf P n t = some a → ∀ (d : Nat), n ≤ d → ∀ (x y x' y' : Value) (b : Bool), VR ρ x x' → VR ρ y y' → eqV a x y = some b →
    (Op.equalIn d t x' y').run P w = .ok b w := by
  induction n with
  | zero => intro t a h; simp [atyOf] at h
  | succ n ih =>
    intro t a h d hd x y x' y' b hx hy hb
    obtain ⟨d, rfl⟩ : ∃ m, d = m + 1 := ⟨d - 1, by omega⟩
    have hsh := eqSh a x y x' y' b hx hy hb
    simp only [atyOf] at h
    split at h
    · rename_i ht; cases h
      cases hsh
      simp only [Op.equalIn, Sem.run_bind, run_underlying ht, Result.andThen_ok]; rfl
    · rename_i k ht; cases h
      cases hsh
      simp only [Op.equalIn, Sem.run_bind, run_underlying ht, Result.andThen_ok, if_true]; rfl
    · rename_i k ht; cases h
      cases hsh with
      | float ha hc => simp only [Op.equalIn, Sem.run_bind, run_underlying ht, Result.andThen_ok, if_true, Op.floatEq, ford_rel ha hc]; rfl
    · rename_i k ht; cases h
      cases hsh with
      | complex ha hb' hc hd' => simp only [Op.equalIn, Sem.run_bind, run_underlying ht, Result.andThen_ok, if_true, Op.floatEq, ford_rel ha hc, ford_rel hb' hd']; rfl
    · rename_i ht; cases h
      cases hsh
      simp only [Op.equalIn, Sem.run_bind, run_underlying ht, Result.andThen_ok, beq_toListBytes]; rfl
    · rename_i e ht; cases h
      cases hsh with
      | ptr hh =>
        rename_i p q
        simp only [Op.equalIn, Sem.run_bind, run_underlying ht, Result.andThen_ok]
        cases p with
        | none => rfl
        | some p => cases q with
          | none => rfl
          | some q => simp at hh
    · rename_i e ht; cases h
      cases hsh with
      | slice hh =>
        rename_i p q n c m d'
        simp only [Op.equalIn, Sem.run_bind, run_underlying ht, Result.andThen_ok]
        cases p with
        | none => rfl
        | some p => cases q with
          | none => rfl
          | some q => simp at hh
    · rename_i e e' ht; cases h
      cases hsh with
      | map hh =>
        rename_i p q
        simp only [Op.equalIn, Sem.run_bind, run_underlying ht, Result.andThen_ok]
        cases p with
        | none => rfl
        | some p => cases q with
          | none => rfl
          | some q => simp at hh
    · rename_i e e' e'' ht; cases h
      cases hsh <;> simp only [Op.equalIn, Sem.run_bind, run_underlying ht, Result.andThen_ok] <;> rfl
    · rename_i fs ht
      split at h
      · cases h
      · rename_i hs
        obtain ⟨l, hl, rfl⟩ := Option.map_eq_some_iff.1 h
        cases hsh with
        | struct hxl hyl hb =>
        have hf : P.fieldsOf t = fs := by simp [Program.fieldsOf, ht]
        rw [run_equalIn_struct w d t _ _ (by rw [hf]; exact ht) (by simpa using hs), hf]
        exact eqFields_sound ih d (by omega) _ _ _ _ hxl hyl _ _ _ hl hb
    · cases h
end
section
variable (P : Program) (ρ : Rho) (w : World)
theorem eqOp_sound {t : TypeId} {a : ATy} {X Y : Operand} {x y x' y' : Value} {b neg : Bool} (ha : atyOf P 10 t = some a) (hg : P.eqGuardType P.depth t = false)
    (hx : VR ρ x x') (hy : VR ρ y y') (he : eqV a x y = some b)
    (hplain : ∃ d, P.underlying t = some d ∧ plainTy d = false) :
    ∀ op, op = (if neg then BinOp.neq else BinOp.eql) → Gives P ρ w (do eqGuard op t X Y x' y'; binOp op t x' y') (.bool (if neg then !b else b)) := by
  intro op hop
  have hq := eqV_sound (P := P) (ρ := ρ) (w := w) 10 t a ha Op.maxDepth (by decide) x y x' y' b hx hy he
  have hsh := eqSh a x y x' y' b hx hy he
  obtain ⟨d, hd, hpl⟩ := hplain
  have hne : (a = .int ∨ a = .float ∨ a = .complex ∨ a = .str ∨ ∃ n sz g e, a = .array n sz g e) → False := by
    intro h
    simp only [atyOf, hd] at ha
    cases d <;> simp [plainTy] at hpl <;> simp at ha <;> rcases h with h | h | h | h | ⟨n, sz, g, e, h⟩ <;> subst h <;> simp at ha
  have hboth : (eqGuard op t X Y x' y').run P w = .ok () w ∧ (binOp BinOp.neq t x' y' = (do pure (.bool (!(← Op.equal t x' y'))))) ∧ (binOp BinOp.eql t x' y' = (do pure (.bool (← Op.equal t x' y')))) := by
    cases hsh with
    | bool p q => exact ⟨by cases op <;> rfl, rfl, rfl⟩
    | int k p q => exact (hne (.inl rfl)).elim
    | float h g => exact (hne (.inr (.inl rfl))).elim
    | complex h1 h2 h3 h4 => exact (hne (.inr (.inr (.inl rfl)))).elim
    | str p q => exact (hne (.inr (.inr (.inr (.inl rfl))))).elim
    | ptr h => exact ⟨by cases op <;> rfl, rfl, rfl⟩
    | slice h => exact ⟨by cases op <;> rfl, rfl, rfl⟩
    | map h => exact ⟨by cases op <;> rfl, rfl, rfl⟩
    | funcN => exact ⟨by cases op <;> rfl, rfl, rfl⟩
    | funcL => exact ⟨by cases op <;> rfl, rfl, rfl⟩
    | funcR => exact ⟨by cases op <;> rfl, rfl, rfl⟩
    | struct h1 h2 h3 => exact ⟨run_eqGuard_agg w op t X Y _ _ hg, rfl, rfl⟩
  obtain ⟨h1, h2, h3⟩ := hboth
  refine .same ?_ (.bool _)
  simp only [Sem.run_bind, h1, Result.andThen_ok]
  subst hop
  cases neg with
  | true => simp only [if_true]; rw [h2]; simp only [Op.equal, Sem.run_bind, hq, Result.andThen_ok, Sem.run_pure]
  | false => simp only [Bool.false_eq_true, if_false]; rw [h3]; simp only [Op.equal, Sem.run_bind, hq, Result.andThen_ok, Sem.run_pure]
theorem negFloat_nan {k : FloatKind} {b : Nat} (h : fisNaN k b = true) : fisNaN k (Op.negFloat k b) = true := by
  rw [fisNaN_iff] at h ⊢
  have : Op.negFloat k b % k.format.signWeight = b % k.format.signWeight := by
    unfold Op.negFloat Ieee.Format.signWeight
    rw [Nat.xor_mod_two_pow]
    simp
  rw [this]; exact h
theorem fneg_rel {k : FloatKind} {a a' : Nat} (h : FR k a a') : FR k (fneg k a) (Op.negFloat k a') := by
  unfold fneg
  split
  · rename_i e
    have hn : fisNaN k a' = true := by rw [← h.nan_iff, e]; exact nanF_nan k
    rw [e]; exact .nan (negFloat_nan hn)
  · rename_i ne
    rcases h with h | ⟨h, _⟩
    · rw [h]; exact .refl _ _
    · exact absurd h ne
theorem unV_sound {op : UnOp} {x x' v : Value} (hx : VR ρ x x') (h : unV op x = some v) : Gives P ρ w (Op.unary op x') v := by
  cases hx <;> simp only [unV] at h <;> first | (cases h; done) | skip
  · cases op <;> simp at h
    subst h; exact .same rfl (.bool _)
  · rename_i k n
    cases op <;> simp only [Option.some.injEq, reduceCtorEq] at h
    · subst h
      exact .same (by simp [Op.unary, Op.intArith, wrapK_eq]) (.int _ _)
    · obtain ⟨r, hr, rfl⟩ := Option.map_eq_some_iff.1 h
      exact .same (by simpa [Op.unary] using intBits_run P w hr) (.int _ _)
  · rename_i k a a' ha
    cases op <;> simp at h
    subst h
    exact .same rfl (.float (fneg_rel ha))
  · rename_i k a b a' b' ha hb
    cases op <;> simp at h
    subst h
    exact .same rfl (.complex (fneg_rel ha) (fneg_rel hb))
theorem ffV_sound {s k : FloatKind} {a a' r : Nat} (ha : FR s a a') (h : ffV s a k = some r) :
    ∃ r' w', (Conv.floatToFloat s a' k).run P w = .ok (.float k r') w' ∧ Quiet w w' ∧ FR k r r' := by
  unfold ffV at h
  unfold Conv.floatToFloat
  split at h
  · rename_i e; subst e; cases h
    exact ⟨a', w, by simp, .refl w, ha⟩
  · rename_i ne
    rw [if_neg ne]
    cases hn : fisNaN s a with
    | true =>
      obtain ⟨sg, t, e⟩ := nan_form hn
      obtain ⟨sg', t', e'⟩ := nan_form (ha.nan_iff ▸ hn)
      simp only [FloatKind.decode, e] at h
      cases h
      simp only [FloatKind.decode, e']
      exact ⟨_, _, by simp only [Sem.run_bind, run_choose_free P _ w (show (Question.nanConv k a').forced = false from rfl), Result.andThen_ok]; rfl, .drew w, .nan (cut_nanConv k _ _)⟩
    | false =>
      obtain rfl := ha.eq hn
      cases hd : s.decode a with
      | nan sg t => simp [fisNaN, hd, Ieee.Datum.isNaN] at hn
      | infinity sg => simp only [hd] at h; cases h; exact ⟨_, w, by simp, .refl w, .refl _ _⟩
      | number sg m e =>
        simp only [hd] at h
        split at h
        · cases h
        · rename_i hi
          cases h
          exact ⟨_, w, by simp [hi], .refl w, .refl _ _⟩
def convTo (P : Program) (dst : TypeId) : ConvK → Prop
  | .toInt k => P.underlying dst = some (.int k)
  | .toFloat k => P.underlying dst = some (.float k)
  | .toComplex k => P.underlying dst = some (.complex k)
  | .same => P.underlying dst = some .string
  | _ => False
theorem convV_sound {src dst : TypeId} {c : ConvK} {x x' v : Value} (hx : VR ρ x x') (h : convV c x = some v)
    (hs : ∃ d, P.underlying src = some d)
    (hd : convTo P dst c) : Gives P ρ w (convert src dst x') v := by
  obtain ⟨u, hs⟩ := hs
  cases c with
  | toInt k =>
    simp only [convTo] at hd
    cases hx <;> simp only [convV] at h <;> first | (cases h; done) | skip
    · cases h
      exact .same (by simp only [convert, Sem.run_bind, run_underlying hs, run_underlying hd, Result.andThen_ok, Conv.intToInt, wrapK_eq]; rfl) (.int _ _)
    · rename_i s a a' ha
      cases hn : fisNaN s a with
      | true =>
        obtain ⟨sg, t, e⟩ := nan_form hn
        simp [FloatKind.decode, e, Ieee.Datum.toInt, Ieee.Datum.integral] at h
      | false =>
        obtain rfl := ha.eq hn
        split at h
        · rename_i n hn'
          split at h
          · rename_i hb
            cases h
            exact .same (by simp only [convert, Sem.run_bind, run_underlying hs, run_underlying hd, Result.andThen_ok, Conv.floatToInt, hn', hb.1, hb.2, and_self, if_true]; rfl) (.int _ _)
          · cases h
        · cases h
  | toFloat k =>
    simp only [convTo] at hd
    cases hx <;> simp only [convV] at h <;> first | (cases h; done) | skip
    · cases h
      exact .same (by simp only [convert, Sem.run_bind, run_underlying hs, run_underlying hd, Result.andThen_ok, Conv.intToFloat]; rfl) (.float (.refl _ _))
    · rename_i s a a' ha
      obtain ⟨r, hr, rfl⟩ := Option.map_eq_some_iff.1 h
      obtain ⟨r', w', h1, h2, h3⟩ := ffV_sound P w ha hr
      exact ⟨_, w', by simp only [convert, Sem.run_bind, run_underlying hs, run_underlying hd, Result.andThen_ok, h1], h2, .float h3⟩
  | toComplex k =>
    simp only [convTo] at hd
    cases hx <;> simp only [convV] at h <;> first | (cases h; done) | skip
    rename_i s a b a' b' ha hb
    cases h1 : ffV s a k with
    | none => simp [h1] at h
    | some r1 =>
      cases h2 : ffV s b k with
      | none => simp [h1, h2] at h
      | some r2 =>
        simp [h1, h2] at h; subst h
        obtain ⟨r1', w1, g1, g2, g3⟩ := ffV_sound P w ha h1
        obtain ⟨r2', w2, g4, g5, g6⟩ := ffV_sound P w1 hb h2
        exact ⟨.complex k r1' r2', w2, by simp only [convert, Sem.run_bind, run_underlying hs, run_underlying hd, Result.andThen_ok, Conv.complexToComplex, g1, g4]; rfl, g2.trans g5, .complex g3 g6⟩
  | same =>
    simp only [convTo] at hd
    cases hx <;> simp only [convV] at h <;> first | (cases h; done) | skip
    cases h
    exact .same (by simp only [convert, Sem.run_bind, run_underlying hs, run_underlying hd, Result.andThen_ok]; rfl) (.string _)
  | bytes e => exact hd.elim
  | text => exact hd.elim
end
end Go.Vam
