/- Operations that read memory. -/
import Derived.Test.YtpphomoijlilfaaVam8
namespace Go.Vam
open Go
section
variable {P : Program} {ρ : Rho} {w : World}
theorem checkKey_struct (d : Nat) (emp : Bool) (t : TypeId) (fs : Array Field) (cs : Array Value) (ht : P.underlying t = some (.struct fs))
    (h : ∀ f ∈ fs.toList, f.name ≠ "_" → ∃ v, (part f.type cs f.offset).run P w = .ok v w ∧ (Instr.checkKey emp d f.type v).run P w = .ok () w) :
    (Instr.checkKey emp (d + 1) t (.agg cs)).run P w = .ok () w := by
  simp only [Instr.checkKey, Sem.run_bind, run_underlying ht, Result.andThen_ok]
  rw [← Array.forIn_toList]
  generalize fs.toList = l at h
  clear ht
  induction l with
  | nil => rfl
  | cons f l ih =>
    have ih' := ih (fun g hg => h g (List.mem_cons_of_mem _ hg))
    simp only [List.forIn_cons, Sem.run_bind]
    by_cases hn : f.name ≠ "_"
    · obtain ⟨v, h1, h2⟩ := h f (List.mem_cons_self ..) hn
      rw [if_pos hn]
      simp only [Sem.run_bind, h1, h2, Result.andThen_ok, Sem.run_pure]
      exact ih'
    · rw [if_neg hn]
      simp only [Sem.run_pure, Result.andThen_ok]
      exact ih'
theorem eqV_self_struct {n : Nat} (xs : List Value) : ∀ (fs : List Field) (l : List (Nat × Option Nat × ATy)),
      (fs.mapM fun f => if f.name = "_" then none else match partN P f.type, atyOf P n f.type with
        | some m, some a => some (f.offset, m, a)
        | _, _ => none) = some l → eqFs l xs xs = some true →
      ∀ f ∈ fs, ∃ m a x, partN P f.type = some m ∧ atyOf P n f.type = some a ∧ partV xs f.offset m = some x ∧ eqV a x x = some true := by
  intro fs
  induction fs with
  | nil => intro l _ _ f hf; cases hf
  | cons f fs ih =>
    intro l h hb g hg
    obtain ⟨y, l', h1, h2, rfl⟩ := mapM_cons_some h
    split at h1
    · cases h1
    · split at h1
      · rename_i m a hm ha
        cases h1
        simp only [eqFs] at hb
        split at hb
        · rename_i u v hu hv
          rw [hu] at hv; cases hv
          cases he : eqV a u u with
          | none => rw [he] at hb; cases hb
          | some c =>
            rw [he] at hb
            cases c with
            | false => cases hb
            | true =>
              cases hg with
              | head => exact ⟨m, a, u, hm, ha, hu, he⟩
              | tail _ hg => exact ih l' h2 hb g hg
        · cases hb
      · cases h1
theorem checkKey_sound (emp : Bool) (n : Nat) : ∀ (t : TypeId) (a : ATy), atyOf P n t = some a → ∀ (d : Nat), n ≤ d → ∀ (x x' : Value), VR ρ x x' → eqV a x x = some true →
    (Instr.checkKey emp d t x').run P w = .ok () w := by
  induction n with
  | zero => intro t a h; simp [atyOf] at h
  | succ n ih =>
    intro t a h d hd x x' hx hb
    obtain ⟨d, rfl⟩ : ∃ m, d = m + 1 := ⟨d - 1, by omega⟩
    have hsh := eqSh a x x x' x' true hx hx hb
    simp only [atyOf] at h
    split at h
    case h_10 fs ht =>
      split at h
      · cases h
      · obtain ⟨l, hl, rfl⟩ := Option.map_eq_some_iff.1 h
        cases hx with
        | agg h1 h2 =>
          refine checkKey_struct d emp t fs _ ht (fun f hf _ => ?_)
          simp only [eqV] at hb
          obtain ⟨m, a, u, hm, ha, hu, he⟩ := eqV_self_struct _ _ _ hl hb f hf
          obtain ⟨u', r1, r2⟩ := part_sound (P := P) (ρ := ρ) (w := w) hm hu ⟨h1, h2⟩
          exact ⟨u', r1, ih f.type a ha d (by omega) u u' r2 he⟩
        | _ => simp [eqV] at hb
    all_goals
      first
        | (cases h; done)
        | (rename_i ht; cases h; simp only [Instr.checkKey, Sem.run_bind, run_underlying ht, Result.andThen_ok]; rfl)
theorem EsR.cases_cons {e : Value × Value × Nat} {es : List (Value × Value × Nat)} {zs : List MapEntry} (h : EsR ρ (e :: es) zs) :
    ∃ e' es', zs = e' :: es' ∧ (VR ρ e.1 e'.key ∧ VR ρ e.2.1 e'.val ∧ e.2.2 = e'.born) ∧ EsR ρ es es' := by
  cases zs with
  | nil => have := h.1; simp at this
  | cons e' es' => exact ⟨e', es', rfl, h.2 0 e e' (by simp) (by simp), by simpa using h.1, fun i x y a b => h.2 (i + 1) x y (by simpa using a) (by simpa using b)⟩
theorem EsR.cases_nil {zs : List MapEntry} (h : EsR ρ [] zs) : zs = [] := by
  cases zs with
  | nil => rfl
  | cons _ _ => have := h.1; simp at this
def FoundR (ρ : Rho) : Option (Nat × Value) → Option (Nat × Value) → Prop
  | none, none => True
  | some (i, v), some (j, v') => i = j ∧ VR ρ v v'
  | _, _ => False
theorem sameNow_eq {a : ATy} {t : TypeId} {d : TypeDesc} {x y x' y' : Value} {b b' : Bool} (n : Nat) (ha : atyOf P (n + 1) t = some a) (hd : P.underlying t = some d) (hx : VR ρ x x') (hy : VR ρ y y')
    (h : eqV a x y = some b) (g : Instr.sameNow d x' y' = some b') : b' = b := by
  have hsh := eqSh a x y x' y' b hx hy h
  simp only [atyOf, hd] at ha
  cases d <;> simp only [reduceCtorEq, Option.some.injEq] at ha <;> (try simp only [Instr.sameNow, reduceCtorEq] at g) <;> (try (subst ha))
  · cases hsh; simp at g; exact g.symm
  · cases hsh; simp at g; exact g.symm
  · cases hsh; simp at g; rw [← g, beq_toListBytes]
theorem findNow_ok {a : ATy} {t : TypeId} {d : TypeDesc} {k k' : Value} (n : Nat) (ha : atyOf P (n + 1) t = some a) (hd : P.underlying t = some d) (hk : VR ρ k k') :
    ∀ (es : List (Value × Value × Nat)) (es' : List MapEntry) (i : Nat) (r : Option (Nat × Value)) (q : Option (Nat × Value)), EsR ρ es es' → findK a k es i = some r → Instr.findNow d k' es' i = some q → FoundR ρ r q := by
  intro es
  induction es with
  | nil =>
    intro es' i r q he hr hq
    rw [he.cases_nil] at hq
    simp [findK] at hr; simp [Instr.findNow] at hq
    subst hr; subst hq; trivial
  | cons e es ih =>
    intro es' i r q he hr hq
    obtain ⟨e', es'', rfl, ⟨h1, h2, h3⟩, h4⟩ := he.cases_cons
    obtain ⟨x, v, b⟩ := e
    simp only [findK] at hr
    simp only [Instr.findNow] at hq
    cases hev : eqV a k x with
    | none => rw [hev] at hr; cases hr
    | some c =>
      rw [hev] at hr
      cases hsn : Instr.sameNow d k' e'.key with
      | none => rw [hsn] at hq; cases hq
      | some c' =>
        rw [hsn] at hq
        have := sameNow_eq n ha hd hk h1 hev hsn
        subst this
        cases c' with
        | true => cases hr; cases hq; exact ⟨rfl, h2⟩
        | false => exact ih es'' (i + 1) r q h4 hr hq
theorem findAsking_ok {a : ATy} {t : TypeId} {k k' : Value} (ha : atyOf P 10 t = some a) (hk : VR ρ k k') :
    ∀ (es : List (Value × Value × Nat)) (es' : List MapEntry) (i : Nat) (r : Option (Nat × Value)), EsR ρ es es' → findK a k es i = some r →
    ∃ q, (Instr.findAsking t k' es' i).run P w = .ok q w ∧ FoundR ρ r q := by
  intro es
  induction es with
  | nil =>
    intro es' i r he hr
    rw [he.cases_nil]
    simp [findK] at hr; subst hr
    exact ⟨none, rfl, trivial⟩
  | cons e es ih =>
    intro es' i r he hr
    obtain ⟨e', es'', rfl, ⟨h1, h2, h3⟩, h4⟩ := he.cases_cons
    obtain ⟨x, v, b⟩ := e
    simp only [findK] at hr
    cases hev : eqV a k x with
    | none => rw [hev] at hr; cases hr
    | some c =>
      rw [hev] at hr
      have hq := eqV_sound (P := P) (ρ := ρ) (w := w) 10 t a ha Op.maxDepth (by decide) k x k' e'.key c hk h1 hev
      simp only [Instr.findAsking, Op.equal, Sem.run_bind, hq, Result.andThen_ok]
      cases c with
      | true => cases hr; exact ⟨_, rfl, rfl, h2⟩
      | false =>
        obtain ⟨q, r1, r2⟩ := ih es'' (i + 1) r h4 hr
        exact ⟨q, by simpa using r1, r2⟩
theorem findKey_sound {a : ATy} {t : TypeId} {k k' : Value} {es : List (Value × Value × Nat)} {es' : Array MapEntry} {r : Option (Nat × Value)} (emp : Bool) (ha : atyOf P 10 t = some a) (hk : VR ρ k k')
    (he : EsR ρ es es'.toList) (h : findKey a k es = some r) :
    (Instr.checkKey emp 10000 t k').run P w = .ok () w ∧ ∃ q, (Instr.findKey t k' es'.toList).run P w = .ok q w ∧ FoundR ρ r q := by
  unfold findKey at h
  split at h
  · rename_i hself
    refine ⟨checkKey_sound emp 10 t a ha 10000 (by decide) k k' hk hself, ?_⟩
    have hu : ∃ d, P.underlying t = some d := by
      simp only [atyOf] at ha
      cases hd : P.underlying t with
      | none => simp [hd] at ha
      | some d => exact ⟨d, rfl⟩
    obtain ⟨d, hd⟩ := hu
    simp only [Instr.findKey, Sem.run_bind, run_underlying hd, Result.andThen_ok]
    cases hf : Instr.findNow d k' es'.toList 0 with
    | some q => exact ⟨q, rfl, findNow_ok 9 ha hd hk es _ 0 r q he h hf⟩
    | none => exact findAsking_ok ha hk es _ 0 r he h
  · cases h
theorem bytes_forIn (P : Program) (w : World) : ∀ (l : List Value) (bs : List UInt8) (s : ByteArray), bytesOfCells l = some bs →
    ∃ r : ByteArray, (forIn l s (fun c (s : ByteArray) => (match c with
      | .int .u8 n => pure (ForInStep.yield (s.push (UInt8.ofNat n.toNat)))
      | _ => do
        stuck "bytesToString: byte expected"
        pure (ForInStep.yield s) : Sem (ForInStep ByteArray)))).run P w = .ok r w ∧ r.data.toList = s.data.toList ++ bs := by
  intro l
  induction l with
  | nil => intro bs s h; simp [bytesOfCells] at h; subst h; exact ⟨s, rfl, by simp⟩
  | cons c l ih =>
    intro bs s h
    unfold bytesOfCells at h
    split at h
    · cases ‹c :: l = []›
    · rename_i n l' e
      cases e
      obtain ⟨bs', hb, rfl⟩ := Option.map_eq_some_iff.1 h
      obtain ⟨r, h1, h2⟩ := ih bs' (s.push (UInt8.ofNat n.toNat)) hb
      refine ⟨r, ?_, by rw [h2]; simp [ByteArray.push]⟩
      simp only [List.forIn_cons, Sem.run_bind, Sem.run_pure, Result.andThen_ok]
      exact h1
    · cases h
theorem bytesOfCells_same {l l' : List Value} (h : VL ρ l l') : ∀ {bs : List UInt8}, bytesOfCells l = some bs → bytesOfCells l' = some bs := by
  induction l generalizing l' with
  | nil => intro bs hb; rw [h.cases_nil]; exact hb
  | cons c l ih =>
    intro bs hb
    obtain ⟨c', ls, rfl, h1, h2⟩ := h.cases_cons
    unfold bytesOfCells at hb
    split at hb
    · cases ‹c :: l = []›
    · rename_i n l2 e
      cases e
      obtain ⟨bs', hb', rfl⟩ := Option.map_eq_some_iff.1 hb
      cases h1
      simp only [bytesOfCells, ih h2 hb', Option.map_some]
    · cases hb
end
section
variable {P : Program} {ρ : Rho} {w : World} {F H : Type} [Store F Value] [Store H ABlk]
theorem load_sound {s : AS H} (hR : Rep ρ s w) {t : TypeId} {n : Option Nat} {x x' v : Value} (hn : partN P t = some n) (hx : VR ρ x x') (h : loadV s n x = some v) :
    ∃ v', (Instr.loadAt t x').run P w = .ok v' w ∧ VR ρ v v' := by
  obtain ⟨d, i, hd, hi, rfl⟩ := partN_spec hn
  cases ha : aggB d with
  | true =>
    rw [ha] at h
    simp only [if_true] at h
    cases hx <;> simp only [loadV] at h <;> first | (cases h; done) | skip
    rename_i B off L hL
    obtain ⟨vs, hvs, rfl⟩ := Option.map_eq_some_iff.1 h
    obtain ⟨c, ce, cfz, h1, h2, h3, h4⟩ := hR.cells hL hvs
    refine ⟨.agg _, ?_, VL.agg (by simpa using h4)⟩
    simp only [Instr.loadAt, Instr.sureAddr, Sem.run_bind, Sem.run_pure, Result.andThen_ok, loadVar, run_isAgg' hd, ha, if_true,
      run_sizeT (show sizeT P t = some i.size by simp [sizeT, hi]), run_loadCells P w L.b (L.sh + off) i.size c ce cfz h1 h2]
  | false =>
    rw [ha] at h
    simp only [Bool.false_eq_true, if_false] at h
    cases hx <;> simp only [loadV] at h <;> first | (cases h; done) | skip
    rename_i B off L hL
    obtain ⟨v', h1, h2⟩ := hR.cell hL h
    refine ⟨v', ?_, h2⟩
    simp only [Instr.loadAt, Instr.sureAddr, Sem.run_bind, Sem.run_pure, Result.andThen_ok, loadVar, run_isAgg' hd, ha, Bool.false_eq_true, if_false, run_load, h1]
theorem compCall_rd {c : Call} {ao : AOp} {o : Oper} {nt : Nat} {a : Act} {fr : F} {v : Value} {s : AS H} (hR : Rep ρ s w) (hop : o.op = .call c) (hc : compCall P c = some ao) (hk : ao.kind = .rd)
    (ho : c.operands.all (oprOk nt) = true) (hF : FrR ρ nt fr a) (hv : readV fr s ao = some v) : NextV P ρ w (execOp a.eval o) v := by
  obtain ⟨callee, args, argTypes⟩ := c
  simp only [compCall] at hc
  cases callee with
  | invoke r m => simp at hc
  | value f =>
    simp only at hc
    split at hc
    · split at hc
      · split at hc
        · cases hc; simp [AOp.kind] at hk
        · split at hc
          · cases hc
          · cases hc; simp [AOp.kind] at hk
      · cases hc
    · cases hc; simp [AOp.kind] at hk
  | builtin b =>
    have hargs : args.all (oprOk nt) = true := by simpa [Call.operands] using ho
    cases b <;> simp only [reduceCtorEq] at hc
    case len =>
      split at hc
      · rename_i xt x h1 h2
        obtain rfl := arr1 h1
        obtain rfl := arr1 h2
        have hx := hF.ev (x := x) (by simpa using hargs)
        refine exec_builtin hop (Builtin.len_ #[xt] o.type (#[x].map a.eval)) v (fun _ => rfl) ?_
        simp only [List.map_toArray, List.map_cons, List.map_nil]
        split at hc
        · cases hc; simp [AOp.kind] at hk
        · cases hc; simp [AOp.kind] at hk
        · rename_i kt e he
          cases hc
          simp only [readV] at hv
          generalize evO fr x = u at *
          generalize a.eval x = u' at *
          cases hx <;> simp only at hv <;> first | (cases hv; done) | skip
          · cases hv
            exact .same (by simp [Builtin.len_, run_underlying he, goInt]) (.int _ _)
          · rename_i B L hL
            split at hv
            · rename_i es ck hg
              cases hv
              obtain ⟨L', g1, es', g2, g3⟩ := hR.blk _ _ hg
              rw [hL] at g1; cases g1
              have hlen := g3.1
              refine .same ?_ (.int _ _)
              have hobj : (getObj L.b).run P w = .ok (.map es' ck) w := by simp [getObj, Sem.run, g2]
              simp [Builtin.len_, run_underlying he, goInt, hobj, hlen]
            · cases hv
        · cases hc; simp [AOp.kind] at hk
        · split at hc
          · cases hc; simp [AOp.kind] at hk
          · cases hc
        · cases hc
      · cases hc
    all_goals
      first
        | (cases hc; simp [AOp.kind] at hk; done)
        | (split at hc <;> first
            | (cases hc; done)
            | (cases hc; simp [AOp.kind] at hk; done)
            | (split at hc <;> first
                | (cases hc; done)
                | (cases hc; simp [AOp.kind] at hk; done)
                | (obtain ⟨_, _, rfl⟩ := Option.map_eq_some_iff.1 hc; simp [AOp.kind] at hk; done)
                | (split at hc <;> first
                    | (cases hc; done)
                    | (split at hc <;> first
                        | (cases hc; done)
                        | (cases hc; simp [AOp.kind] at hk; done)))))
end
end Go.Vam
