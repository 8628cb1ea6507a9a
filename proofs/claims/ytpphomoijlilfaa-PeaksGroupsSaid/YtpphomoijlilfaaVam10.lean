/- Operations that read memory, in one theorem; those that make new blocks. -/
import Derived.Test.YtpphomoijlilfaaVam9
namespace Go.Vam
open Go
section
variable {P : Program} {ρ : Rho} {w : World} {F H : Type} [Store F Value] [Store H ABlk]
theorem getObj_map {w : World} {b : Nat} {es : Array MapEntry} {ck : Nat} (h : w.heap[b]? = some (.map es ck)) : (getObj b).run P w = .ok (.map es ck) w := by
  simp [getObj, Sem.run, h]
theorem read_sound {s : AS H} (hR : Rep ρ s w) {o : Oper} {ao : AOp} {nt : Nat} {a : Act} {fr : F} {v : Value} (hc : compOp P o = some ao) (hk : ao.kind = .rd)
    (ho : o.op.operands.all (oprOk nt) = true) (hF : FrR ρ nt fr a) (hv : readV fr s ao = some v) : NextV P ρ w (execOp a.eval o) v := by
  obtain ⟨dst, op, type, pos, after, guard⟩ := o
  simp only at ho
  cases op <;> simp only [compOp, reduceCtorEq] at hc <;> simp only [Op.operands] at ho
  case load t x =>
    obtain ⟨n, hn, rfl⟩ := Option.map_eq_some_iff.1 hc
    simp only [readV] at hv
    obtain ⟨v', h1, h2⟩ := load_sound hR hn (hF.ev (x := x) (by simpa using ho)) hv
    exact Gives.next (.same h1 h2)
  case convert src dst x =>
    have hx := hF.ev (x := x) (by simpa using ho)
    split at hc
    · cases hc; simp [AOp.kind] at hk
    · cases hc; simp [AOp.kind] at hk
    · cases hc; simp [AOp.kind] at hk
    · cases hc; simp [AOp.kind] at hk
    · split at hc
      · cases hc; simp [AOp.kind] at hk
      · cases hc
    · rename_i e hs hd
      split at hc
      · rename_i he
        cases hc
        simp only [readV] at hv
        simp only [execOp]
        generalize evO fr x = u at *
        generalize a.eval x = u' at *
        have hconv : ∀ a' len cap, (convert src dst (.slice a' len cap)).run P w = (Conv.bytesToString (.slice a' len cap)).run P w := by
          intro a' len cap
          simp only [convert, Sem.run_bind, run_underlying hs, run_underlying hd, run_underlying he, Result.andThen_ok]
        have key : ∀ (L : Loc) (off off' len len' cap' : Nat) (B : Nat), ρ B = some L → len' = len → (len ≠ 0 → off' = L.sh + off) → ∀ cs, cellsAt s ⟨B, off, none⟩ len = some cs →
            ∀ l, bytesOfCells cs = some l → (len ≠ 0 ∨ off' = L.sh + off) → (Conv.bytesToString (.slice (some ⟨L.b, off', none⟩) len' cap')).run P w = .ok (.string ⟨l.toArray⟩) w := by
          intro L off off' len len' cap' B hL e1 e2 cs hcs l hl e3
          subst e1
          have e : off' = L.sh + off := by rcases e3 with h | h
                                           · exact e2 h
                                           · exact h
          subst e
          obtain ⟨c, ce, cfz, h1, h2, h3, h4⟩ := hR.cells hL hcs
          have hb := bytesOfCells_same h4 hl
          obtain ⟨r, g1, g2⟩ := bytes_forIn P w _ _ ByteArray.empty hb
          have hr : r = ⟨l.toArray⟩ := by
            obtain ⟨⟨d⟩⟩ := r
            simp at g2
            simp [g2]
          simp only [Conv.bytesToString, Sem.run_bind, run_loadCells P w L.b (L.sh + off) len' c ce cfz h1 h2, Result.andThen_ok]
          rw [← Array.forIn_toList]
          erw [g1]
          simp only [Result.andThen_ok, Sem.run_pure, hr]
        cases hx <;> simp only at hv <;> first | (cases hv; done) | skip
        · cases hv
          exact Gives.next (.same (by rw [hconv]; rfl) (.string _))
        · split at hv
          · rename_i cs hcs
            obtain ⟨l, hl, rfl⟩ := Option.map_eq_some_iff.1 hv
            exact Gives.next (.same (by rw [hconv]; exact key _ _ _ _ _ _ _ (by assumption) rfl (fun _ => rfl) cs hcs l hl (.inr rfl)) (.string _))
          · cases hv
        · split at hv
          · rename_i cs hcs
            obtain ⟨l, hl, rfl⟩ := Option.map_eq_some_iff.1 hv
            exact Gives.next (.same (by rw [hconv]; exact key _ _ _ _ _ _ _ (by assumption) rfl (fun _ => rfl) cs hcs l hl (.inr rfl)) (.string _))
          · cases hv
        · split at hv
          · rename_i cs hcs
            obtain ⟨l, hl, rfl⟩ := Option.map_eq_some_iff.1 hv
            obtain ⟨c, _, _, rfl⟩ := cellsAt_spec hcs
            simp [bytesOfCells] at hl
            subst hl
            refine Gives.next (.same (v' := .string ⟨#[]⟩) ?_ (.string _))
            rw [hconv]
            rfl
          · cases hv
        · split at hv
          · rename_i cs hcs
            obtain ⟨l, hl, rfl⟩ := Option.map_eq_some_iff.1 hv
            exact Gives.next (.same (by rw [hconv]; exact key _ _ _ _ _ _ _ (by assumption) rfl (fun _ => rfl) cs hcs l hl (.inr rfl)) (.string _))
          · cases hv
      · cases hc
    · split at hc
      · split at hc
        · cases hc; simp [AOp.kind] at hk
        · cases hc
      · cases hc
    · cases hc
  case binOp op t x y yt =>
    split at hc
    · split at hc
      · split at hc
        · cases hc; simp [AOp.kind] at hk
        · split at hc
          · split at hc
            · cases hc
            · cases hc; simp [AOp.kind] at hk
          · cases hc
      · cases hc
    · split at hc
      · split at hc
        · cases hc; simp [AOp.kind] at hk
        · split at hc
          · split at hc
            · cases hc
            · cases hc; simp [AOp.kind] at hk
          · cases hc
      · cases hc
    · cases hc; simp [AOp.kind] at hk
  case lookup t m k ok =>
    simp at ho
    have hm := hF.ev ho.1
    have hkk := hF.ev ho.2
    split at hc
    · rename_i kt e ht
      split at hc
      · rename_i at_ i hat hi
        split at hc
        · rename_i z hz
          split at hc
          · rename_i hzc
            cases hc
            simp only [readV] at hv
            simp only [execOp]
            have hzr : VR ρ z z := VR.const z hzc
            have hun := run_zero (P := P) (w := w) hi hz
            have hpair : ∀ (u u' : Value) (b : Bool), VR ρ u u' → VR ρ (if ok then .tuple #[u, .bool b] else u) (if ok then .tuple #[u', .bool b] else u') := by
              intro u u' b hu
              split
              · exact VL.tup (.cons hu (.cons (.bool b) (.nil ρ)))
              · exact hu
            have hlk : ∀ (es : List (Value × Value × Nat)) (es' : Array MapEntry) (r : Option (Nat × Value)) (hes : EsR ρ es es'.toList) (hf : findKey at_ (evO fr k) es = some r),
                ∃ u, ((do
                  Instr.checkKey es'.isEmpty 10000 kt (a.eval k)
                  let (v, ok') ← match ← Instr.findKey kt (a.eval k) es'.toList with
                    | some (_, v) => pure (v, true)
                    | none => pure (← zeroValue e, false)
                  pure (if ok then .tuple #[v, .bool ok'] else v) : Sem Value).run P w = .ok u w) ∧
                  VR ρ (match r with | some (_, v) => if ok then .tuple #[v, .bool true] else v | none => if ok then .tuple #[z, .bool false] else z) u := by
              intro es es' r hes hf
              obtain ⟨h1, q, h2, h3⟩ := findKey_sound (P := P) (ρ := ρ) (w := w) es'.isEmpty hat hkk hes hf
              cases r with
              | none =>
                cases q with
                | none => exact ⟨_, by simp only [Sem.run_bind, h1, h2, Result.andThen_ok, hun, Sem.run_pure], hpair _ _ _ hzr⟩
                | some q => exact h3.elim
              | some r =>
                cases q with
                | none => exact h3.elim
                | some q => exact ⟨_, by simp only [Sem.run_bind, h1, h2, Result.andThen_ok, Sem.run_pure], hpair _ _ _ h3.2⟩
            generalize evO fr m = u at *
            generalize a.eval m = u' at *
            cases hm <;> simp only at hv <;> first | (cases hv; done) | skip
            · split at hv
              · rename_i hf
                cases hv
                obtain ⟨u, h1, h2⟩ := hlk [] #[] none ⟨rfl, fun i e e' h => by simp at h⟩ hf
                refine Gives.next (.same ?_ h2)
                simp only [Instr.lookup, Sem.run_bind, run_underlying ht, Result.andThen_ok, Sem.run_pure] at h1 ⊢
                exact h1
              · cases hv
            · rename_i B L hL
              split at hv
              · rename_i es ck hg
                obtain ⟨L', g1, es', g2, g3⟩ := hR.blk _ _ hg
                rw [hL] at g1; cases g1
                have hob := getObj_map (P := P) g2
                split at hv
                · rename_i j x hf
                  cases hv
                  obtain ⟨u, h1, h2⟩ := hlk es es' _ g3 hf
                  refine Gives.next (.same ?_ h2)
                  simp only [Instr.lookup, Sem.run_bind, run_underlying ht, Result.andThen_ok, Sem.run_pure, hob] at h1 ⊢
                  exact h1
                · rename_i hf
                  cases hv
                  obtain ⟨u, h1, h2⟩ := hlk es es' _ g3 hf
                  refine Gives.next (.same ?_ h2)
                  simp only [Instr.lookup, Sem.run_bind, run_underlying ht, Result.andThen_ok, Sem.run_pure, hob] at h1 ⊢
                  exact h1
                · cases hv
              · cases hv
          · cases hc
        · cases hc
      · cases hc
    · cases hc
  case call c => exact compCall_rd hR rfl hc hk (by simpa using ho) hF hv
  all_goals
    first
      | (cases hc; simp [AOp.kind] at hk; done)
      | (obtain ⟨_, _, rfl⟩ := Option.map_eq_some_iff.1 hc; simp [AOp.kind] at hk; done)
      | (split at hc <;> first
          | (cases hc; done)
          | (cases hc; simp [AOp.kind] at hk; done)
          | (obtain ⟨_, _, rfl⟩ := Option.map_eq_some_iff.1 hc; simp [AOp.kind] at hk; done)
          | (split at hc <;> first
              | (cases hc; done)
              | (cases hc; simp [AOp.kind] at hk; done)
              | (obtain ⟨_, _, rfl⟩ := Option.map_eq_some_iff.1 hc; simp [AOp.kind] at hk; done)
              | (split at hc <;> first
                  | (cases hc; done)
                  | (cases hc; simp [AOp.kind] at hk; done)
                  | (obtain ⟨_, _, rfl⟩ := Option.map_eq_some_iff.1 hc; simp [AOp.kind] at hk; done)
                  | (split at hc <;> first
                      | (cases hc; done)
                      | (cases hc; simp [AOp.kind] at hk; done)))))
end
end Go.Vam
