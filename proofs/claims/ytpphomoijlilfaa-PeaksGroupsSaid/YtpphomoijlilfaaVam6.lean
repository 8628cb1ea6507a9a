/- Operations that touch no memory, the rest; and all of them together. -/
import Derived.Test.YtpphomoijlilfaaVam5
namespace Go.Vam
open Go
section
variable {F : Type} [Store F Value]
structure FrR (ρ : Rho) (nt : Nat) (fr : F) (a : Act) : Prop where
  size : a.tmps.size = nt
  val : ∀ t, t < nt → VR ρ (geT fr t) (a.tmps.getD t undef)
theorem FrR.mono {ρ ρ' : Rho} {nt : Nat} {fr : F} {a : Act} (h : FrR ρ nt fr a) (hs : Sub ρ ρ') : FrR ρ' nt fr a :=
  ⟨h.size, fun t ht => (h.val t ht).mono hs⟩
theorem FrR.ev {ρ : Rho} {nt : Nat} {fr : F} {a : Act} (h : FrR ρ nt fr a) {x : Operand} (hx : oprOk nt x = true) : VR ρ (evO fr x) (a.eval x) := by
  cases x with
  | tmp t => simp [oprOk] at hx; exact h.val t hx
  | const v => exact VR.const v (by simpa [oprOk] using hx)
  | global g => simp [oprOk] at hx
  | func f => exact .func rfl rfl (fun i v v' h => by simp at h) (fun i v v' h => by simp at h)
theorem FrR.evs {ρ : Rho} {nt : Nat} {fr : F} {a : Act} (h : FrR ρ nt fr a) {xs : Array Operand} (hx : xs.all (oprOk nt) = true) :
    VL ρ (xs.toList.map (evO fr)) (xs.map a.eval).toList := by
  refine ⟨by simp, fun i v v' p q => ?_⟩
  simp only [Array.toList_map, List.getElem?_map, Option.map_eq_some_iff] at p q
  obtain ⟨x, hx1, rfl⟩ := p
  obtain ⟨y, hy1, rfl⟩ := q
  rw [hx1] at hy1; cases hy1
  rw [Array.all_eq_true_iff_forall_mem] at hx
  exact h.ev (hx x (by rw [← Array.mem_toList_iff]; exact List.mem_of_getElem? hx1))
theorem FrR.put {ρ : Rho} {nt : Nat} {fr : F} {a : Act} (h : FrR ρ nt fr a) {dst : Option Tmp} (hd : match dst with | some d => d < nt | none => True) {v v' : Value} (hv : VR ρ v v') :
    FrR ρ nt (puT fr dst v) (a.put dst v') := by
  cases dst with
  | none => exact h
  | some d =>
    refine ⟨by simp [Act.put, h.size], fun t ht => ?_⟩
    simp only [puT, Act.put, geT, Store.get_put]
    split
    · rename_i e
      subst e
      have : t < a.tmps.size := by rw [h.size]; exact ht
      simp [this]; exact hv
    · rename_i ne
      have := h.val t ht
      simpa [Array.getElem?_setIfInBounds_ne (Ne.symm ne), geT] using this
end
section
variable {P : Program} {ρ : Rho} {w : World}
theorem idxV_spec {v v' : Value} {len j : Nat} (hv : VR ρ v v') (h : idxV v len = some j) : ∃ k n, v' = .int k n ∧ 0 ≤ n ∧ n < len ∧ n.toNat = j := by
  unfold idxV at h
  split at h
  · cases hv
    split at h
    · rename_i hb; cases h; exact ⟨_, _, rfl, hb.1, hb.2, rfl⟩
    · cases h
  · cases h
theorem bndV_spec {v v' : Value} {y j : Nat} (hv : VR ρ v v') (h : bndV v y = some j) : ∃ k n, v' = .int k n ∧ 0 ≤ n ∧ n ≤ y ∧ n.toNat = j := by
  unfold bndV at h
  split at h
  · cases hv
    split at h
    · rename_i hb; cases h; exact ⟨_, _, rfl, hb.1, hb.2, rfl⟩
    · cases h
  · cases h
theorem sliceBound_run {v v' : Value} {y y' j : Nat} {code : BoundsCode} (hv : VR ρ v v') (h : bndV v y = some j) (hy : y ≤ y') :
    (Instr.sliceBound v' y' code).run P w = .ok j w ∧ j ≤ y := by
  obtain ⟨k, n, rfl, h0, h1, rfl⟩ := bndV_spec hv h
  refine ⟨?_, by omega⟩
  have hb : 0 ≤ n ∧ n ≤ (y' : Int) := ⟨h0, by omega⟩
  simp only [Instr.sliceBound, Sem.run_bind, asIntOf, Sem.run_pure, Result.andThen_ok, hb, and_self, if_true]
def OR (ρ : Rho) : Option Value → Option Value → Prop
  | some v, some v' => VR ρ v v'
  | none, none => True
  | _, _ => False
theorem bounds_run {lo hi mx lo' hi' mx' : Option Value} {len cap cap' l h m : Nat} (b : Bool) (h1 : OR ρ lo lo') (h2 : OR ρ hi hi') (h3 : OR ρ mx mx')
    (hb : bounds len cap lo hi mx = some (l, h, m)) (hc : cap ≤ cap') :
    (Instr.sliceBounds b len cap' lo' hi' mx').run P w = .ok (l, h, if mx.isSome then m else cap') w ∧ l ≤ h ∧ (h ≤ m ∨ (hi = none ∧ mx = none ∧ h = len)) ∧ m ≤ cap ∧ (mx = none → m = cap) := by
  unfold bounds at hb
  split at hb
  · cases hb
  · rename_i m' hm
    split at hb
    · cases hb
    · rename_i h' hh
      split at hb
      · cases hb
      · rename_i l' hl
        cases hb
        unfold Instr.sliceBounds
        cases mx with
        | none =>
          cases mx' with
          | some _ => exact h3.elim
          | none =>
            simp only at hm; cases hm
            cases hi with
            | none =>
              cases hi' with
              | some _ => exact h2.elim
              | none =>
                simp only at hh; cases hh
                cases lo with
                | none => cases lo' with
                  | some _ => exact h1.elim
                  | none => simp only at hl; cases hl; exact ⟨by simp, by omega, .inr ⟨rfl, rfl, rfl⟩, Nat.le_refl _, fun _ => rfl⟩
                | some v => cases lo' with
                  | none => exact h1.elim
                  | some v' =>
                    obtain ⟨r1, r2⟩ := sliceBound_run (P := P) (w := w) (code := .sliceB) h1 hl (Nat.le_refl _)
                    exact ⟨by simp [r1], r2, .inr ⟨rfl, rfl, rfl⟩, Nat.le_refl _, fun _ => rfl⟩
            | some u =>
              cases hi' with
              | none => exact h2.elim
              | some u' =>
                simp only at hh
                have g := fun code => sliceBound_run (P := P) (w := w) (code := code) h2 hh hc
                cases lo with
                | none => cases lo' with
                  | some _ => exact h1.elim
                  | none => simp only at hl; cases hl; exact ⟨by cases b <;> simp [(g _).1], by omega, .inl (g .index).2, Nat.le_refl _, fun _ => rfl⟩
                | some v => cases lo' with
                  | none => exact h1.elim
                  | some v' =>
                    obtain ⟨r1, r2⟩ := sliceBound_run (P := P) (w := w) (code := .sliceB) h1 hl (Nat.le_refl _)
                    exact ⟨by cases b <;> simp [(g _).1, r1], r2, .inl (g .index).2, Nat.le_refl _, fun _ => rfl⟩
        | some x =>
          cases mx' with
          | none => exact h3.elim
          | some x' =>
            simp only at hm
            have gm := fun code => sliceBound_run (P := P) (w := w) (code := code) h3 hm hc
            cases hi with
            | none => simp at hh
            | some u =>
              cases hi' with
              | none => exact h2.elim
              | some u' =>
                simp only at hh
                have g := fun code => sliceBound_run (P := P) (w := w) (code := code) h2 hh (Nat.le_refl _)
                cases lo with
                | none => cases lo' with
                  | some _ => exact h1.elim
                  | none => simp only at hl; cases hl; exact ⟨by cases b <;> simp [(g _).1, (gm _).1], by omega, .inl (g .index).2, (gm .index).2, fun h => by cases h⟩
                | some v => cases lo' with
                  | none => exact h1.elim
                  | some v' =>
                    obtain ⟨r1, r2⟩ := sliceBound_run (P := P) (w := w) (code := .slice3C) h1 hl (Nat.le_refl _)
                    exact ⟨by cases b <;> simp [(g _).1, (gm _).1, r1], r2, .inl (g .index).2, (gm .index).2, fun h => by cases h⟩
theorem putL_toList (off : Nat) : ∀ (vs : List Value) (i : Nat) (c : Array Value), off + i + vs.length ≤ c.size →
    ((vs.zipIdx i).foldl (fun cs (p : Value × Nat) => cs.setIfInBounds (off + p.2) p.1) c).toList = putL c.toList (off + i) vs := by
  intro vs
  induction vs with
  | nil => intro i c _; simp; cases c.toList <;> rfl
  | cons v vs ih =>
    intro i c h
    simp only [List.length_cons] at h
    simp only [List.zipIdx_cons, List.foldl_cons]
    rw [ih (i + 1) _ (by simp; omega)]
    apply List.ext_getElem?
    intro j
    rw [putL_get _ _ _ _ (by simp; omega), putL_get _ _ _ _ (by simp; omega)]
    simp only [List.length_cons]
    by_cases h1 : off + (i + 1) ≤ j ∧ j < off + (i + 1) + vs.length
    · rw [if_pos h1, if_pos (by omega)]
      have : j - (off + i) = (j - (off + (i + 1))) + 1 := by omega
      rw [this]; simp
    · rw [if_neg h1]
      by_cases h2 : j = off + i
      · subst h2
        rw [if_pos (by omega), Array.toList_setIfInBounds, List.getElem?_set_self (by simp; omega)]
        simp
      · rw [if_neg (by omega), Array.toList_setIfInBounds, List.getElem?_set_ne (by omega)]
theorem VL.putL {ρ : Rho} {cs cs' vs vs' : List Value} {off : Nat} (h : VL ρ cs cs') (g : VL ρ vs vs') (hl : off + vs.length ≤ cs.length) : VL ρ (Vam.putL cs off vs) (Vam.putL cs' off vs') := by
  have h1 := h.1
  have g1 := g.1
  refine ⟨by simp [putL_length, h1], fun i v v' p q => ?_⟩
  rw [putL_get _ _ _ _ hl] at p
  rw [putL_get _ _ _ _ (by omega)] at q
  split at p
  · rw [if_pos (by omega)] at q; exact g.2 _ _ _ p q
  · rw [if_neg (by omega)] at q; exact h.2 _ _ _ p q
theorem fill_sound (place : Nat → Option (Nat × Nat)) : ∀ (ps : List (Nat × Nat × Value)) (qs : List (Nat × Value)) (cs out : List Value) (c : Array Value),
    fillL cs ps = some out → VL ρ cs c.toList → ps.length = qs.length →
    (∀ (i : Nat) (p : Nat × Nat × Value) (q : Nat × Value), ps[i]? = some p → qs[i]? = some q → place q.1 = some (p.1, p.2.1) ∧ VR ρ p.2.2 q.2) →
    ∃ c', Instr.fill place c qs = some c' ∧ VL ρ out c'.toList := by
  intro ps
  induction ps with
  | nil =>
    intro qs cs out c h hc hl _
    cases qs with
    | cons _ _ => simp at hl
    | nil => simp [fillL] at h; subst h; exact ⟨c, rfl, hc⟩
  | cons p ps ih =>
    intro qs cs out c h hc hl hp
    cases qs with
    | nil => simp at hl
    | cons q qs =>
      obtain ⟨off, size, v⟩ := p
      obtain ⟨i, v'⟩ := q
      obtain ⟨h1, h2⟩ := hp 0 (off, size, v) (i, v') rfl rfl
      simp only at h1 h2
      simp only [fillL] at h
      split at h
      · rename_i hs
        have hcl := h2.cells
        have hcl1 := hcl.1
        have hc1 := hc.1
        simp only [Instr.fill, h1]
        have hsz : v'.cells.size = size := by simp at hcl1; omega
        have hcs : c.size = cs.length := by simp at hc1; omega
        have hs2 := hs.2
        rw [if_neg (by simp [hsz]; omega)]
        refine ih qs _ out _ h ?_ (by simpa using hl) (fun j a b x y => hp (j + 1) a b (by simpa using x) (by simpa using y))
        have e : (v'.cells.zipIdx.foldl (fun cs (x : Value × Nat) => cs.setIfInBounds (off + x.2) x.1) c).toList = Vam.putL c.toList off v'.cells.toList := by
          rw [← Array.foldl_toList]
          have := putL_toList off v'.cells.toList 0 c (by simp; omega)
          simpa using this
        rw [e]
        exact hc.putL hcl (by simpa [hs.1] using hs.2)
      · cases h
theorem zeroOf_spec {t : TypeId} {z : List Value} (h : zeroOf P t = some z) :
    ∃ i zv, P.info? t = some i ∧ i.zero = some zv ∧ zv.cells.size = i.size ∧ z = zv.cells.toList ∧ VL ρ z z := by
  unfold zeroOf at h
  split at h
  · rename_i i hi
    split at h
    · rename_i zv hz
      split at h
      · rename_i hc; cases h; exact ⟨i, zv, hi, hz, hc.1, rfl, (VR.const zv hc.2).cells⟩
      · cases h
    · cases h
  · cases h
theorem run_zero {t : TypeId} {i : TypeInfo} {z : Value} (h : P.info? t = some i) (hz : i.zero = some z) : (zeroValue t).run P w = .ok z w := by
  simp only [zeroValue, Sem.run_bind, run_typeInfo' h, Result.andThen_ok, hz]; rfl
theorem run_mapM_places (fields : List Field) (h : fields.all (fun f => (P.info? f.type).isSome) = true) :
    (fields.mapM (fun f => (do pure (f.offset, ← sizeOf f.type) : Sem (Nat × Nat)))).run P w = .ok (fields.map fun f => (f.offset, (sizeT P f.type).getD 0)) w := by
  induction fields with
  | nil => rfl
  | cons f fs ih =>
    simp only [List.all_cons, Bool.and_eq_true] at h
    obtain ⟨i, hi⟩ := Option.isSome_iff_exists.1 h.1
    have hs : sizeT P f.type = some i.size := by simp [sizeT, hi]
    simp only [List.mapM_cons, Sem.run_bind, run_sizeT hs, Result.andThen_ok, Sem.run_pure, ih h.2, List.map_cons, hs, Option.getD_some]
theorem placesOf_spec (fields : Array Field) : ∀ (ps : List (Nat × Operand)) (out : List (Nat × Nat × Operand)), placesOf P fields ps = some out →
    out.length = ps.length ∧ ∀ (i : Nat) (p : Nat × Operand) (q : Nat × Nat × Operand), ps[i]? = some p → out[i]? = some q →
      ∃ f, fields[p.1]? = some f ∧ sizeT P f.type = some q.2.1 ∧ q.1 = f.offset ∧ q.2.2 = p.2 := by
  intro ps
  induction ps with
  | nil => intro out h; simp [placesOf] at h; subst h; exact ⟨rfl, fun i p q h => by simp at h⟩
  | cons p ps ih =>
    intro out h
    obtain ⟨j, x⟩ := p
    simp only [placesOf] at h
    split at h
    · rename_i f hf
      split at h
      · rename_i n r hn hr
        cases h
        obtain ⟨h1, h2⟩ := ih _ hr
        refine ⟨by simp [h1], fun i p q a b => ?_⟩
        cases i with
        | zero => simp at a b; subst a; subst b; exact ⟨f, hf, hn, rfl, rfl⟩
        | succ i => simp at a b; exact h2 i p q a b
      · cases h
    · cases h
theorem min2_sound {x y x' y' v : Value} (hx : VR ρ x x') (hy : VR ρ y y') (h : min2V x y = some v) : Gives P ρ w (Builtin.min2 x' y') v := by
  cases hx <;> simp only [min2V] at h <;> first | (cases h; done) | skip
  · cases hy <;> simp only at h <;> first | (cases h; done) | skip
    split at h
    · rename_i e; subst e; cases h; exact .same rfl (.int _ _)
    · cases h
  · rename_i k a a' ha
    cases hy <;> simp only at h <;> first | (cases h; done) | skip
    rename_i k' b b' hb
    split at h
    · rename_i e; subst e
      have ho := ford_rel ha hb
      cases hf : ford k a b with
      | none =>
        rw [hf] at h ho; cases h
        simp only [Builtin.min2, ho]
        exact ⟨_, _, by simp only [Sem.run_bind, run_choose_free P _ w (show (Question.nanMinMax k false a' b').forced = false from rfl), Result.andThen_ok]; rfl, .drew w, .float (.nan (cut_nanMinMax k _ _ _ _))⟩
      | some o =>
        rw [hf] at h ho
        have hna : fisNaN k a = false := by
          cases hn : fisNaN k a with
          | false => rfl
          | true => rw [ford, ford_nan (.inl hn)] at hf; cases hf
        obtain rfl := ha.eq hna
        simp only [Builtin.min2, ho]
        cases o <;> cases h
        · exact .same rfl (.float ha)
        · refine .same rfl (.float ?_)
          split
          · exact ha
          · exact hb
        · exact .same rfl (.float hb)
    · cases h
theorem max2_sound {x y x' y' v : Value} (hx : VR ρ x x') (hy : VR ρ y y') (h : max2V x y = some v) : Gives P ρ w (Builtin.max2 x' y') v := by
  cases hx <;> simp only [max2V] at h <;> first | (cases h; done) | skip
  · cases hy <;> simp only at h <;> first | (cases h; done) | skip
    split at h
    · rename_i e; subst e; cases h; exact .same rfl (.int _ _)
    · cases h
  · rename_i k a a' ha
    cases hy <;> simp only at h <;> first | (cases h; done) | skip
    rename_i k' b b' hb
    split at h
    · rename_i e; subst e
      have ho := ford_rel ha hb
      cases hf : ford k a b with
      | none =>
        rw [hf] at h ho; cases h
        simp only [Builtin.max2, ho]
        exact ⟨_, _, by simp only [Sem.run_bind, run_choose_free P _ w (show (Question.nanMinMax k true a' b').forced = false from rfl), Result.andThen_ok]; rfl, .drew w, .float (.nan (cut_nanMinMax k _ _ _ _))⟩
      | some o =>
        rw [hf] at h ho
        have hna : fisNaN k a = false := by
          cases hn : fisNaN k a with
          | false => rfl
          | true => rw [ford, ford_nan (.inl hn)] at hf; cases hf
        obtain rfl := ha.eq hna
        simp only [Builtin.max2, ho]
        cases o <;> cases h
        · exact .same rfl (.float hb)
        · refine .same rfl (.float ?_)
          split
          · exact hb
          · exact ha
        · exact .same rfl (.float ha)
    · cases h
theorem fold_sound {f : Value → Value → Option Value} {g : Value → Value → Sem Value} (hfg : ∀ (w : World) (x y x' y' v : Value), VR ρ x x' → VR ρ y y' → f x y = some v → Gives P ρ w (g x' y') v) :
    ∀ (l l' : List Value) (w : World) (x x' v : Value), VR ρ x x' → VL ρ l l' → foldV f x l = some v → Gives P ρ w (l'.foldlM g x') v := by
  intro l
  induction l with
  | nil =>
    intro l' w x x' v hx hl h
    rw [hl.cases_nil]
    simp [foldV] at h; subst h
    exact .same rfl hx
  | cons y l ih =>
    intro l' w x x' v hx hl h
    obtain ⟨y', ys, rfl, h1, h2⟩ := hl.cases_cons
    simp only [foldV] at h
    split at h
    · rename_i z hz
      obtain ⟨z', w1, r1, r2, r3⟩ := hfg w x y x' y' z hx h1 hz
      obtain ⟨v', w2, q1, q2, q3⟩ := ih ys w1 z z' v r3 h2 h
      exact ⟨v', w2, by simp only [List.foldlM_cons, Sem.run_bind, r1, Result.andThen_ok, q1], r2.trans q2, q3⟩
    · cases h
end
end Go.Vam
