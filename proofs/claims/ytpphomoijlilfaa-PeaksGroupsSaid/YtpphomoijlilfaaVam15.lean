/- One step, of whatever kind; a region in the order of the text. -/
import Derived.Test.YtpphomoijlilfaaVam14
namespace Go.Vam
open Go
section
variable {P : Program} {ρ : Rho} {w : World} {F H : Type} [Store F Value] [Store H ABlk]
theorem act_sound {s s' : AS H} {cf : CallF H} (hX : ExtOk P) (hcf : CfOk P cf) (hR : Rep ρ s w) {o : Oper} {ao : AOp} {nt : Nat} {a : Act} {fr : F} {v : Value} (hc : compOp P o = some ao) (hk : ao.kind = .act)
    (ho : o.op.operands.all (oprOk nt) = true) (hF : FrR ρ nt fr a) (hv : actV cf fr s ao = some (v, s')) : StepWp P ρ s w o a v s' := by
  obtain ⟨dst, op, type, pos, after, guard⟩ := o
  simp only at ho
  cases op <;> simp only [compOp, reduceCtorEq] at hc <;> simp only [Op.operands] at ho
  case store t x y =>
    obtain ⟨n, hn, rfl⟩ := Option.map_eq_some_iff.1 hc
    simp at ho
    have hx := hF.ev ho.1
    have hy := hF.ev ho.2
    simp only [actV] at hv
    split at hv
    · rename_i p hp
      rw [hp] at hx
      split at hv
      · rename_i hsz
        obtain ⟨s1, hp1, he⟩ := Option.map_eq_some_iff.1 hv
        simp only [Prod.mk.injEq] at he
        obtain ⟨rfl, rfl⟩ := he
        have hcl := hy.cells
        have hs1 : (a.eval y).cells.size = n := by
          have := hcl.1
          simp only [Array.length_toList] at this
          omega
        have hxx : ∃ B off L, p = ⟨B, off, none⟩ ∧ a.eval x = .pointer (some ⟨L.b, L.sh + off, none⟩) ∧ ρ B = some L := by
          generalize a.eval x = x' at hx
          cases hx; exact ⟨_, _, _, rfl, rfl, by assumption⟩
        obtain ⟨B, off, L, rfl, e1, hL⟩ := hxx
        obtain ⟨w', r1, r2, r3, r4, _⟩ := hR.store P hL hp1 hcl
        refine StepWp.unit (m := Instr.storeAt t (a.eval x) (a.eval y)) rfl ρ w' ?_ r2 r3
        rw [e1]
        simp only [Instr.storeAt, Instr.sureAddr, Sem.run_bind, Sem.run_pure, Result.andThen_ok, storeVar, run_sizeT hn]
        rw [if_neg (by simp [hs1])]
        exact r1
      · cases hv
    · cases hv
  case convert src dst x =>
    have hx := hF.ev (x := x) (by simpa using ho)
    split at hc
    · cases hc; simp [AOp.kind] at hk
    · cases hc; simp [AOp.kind] at hk
    · cases hc; simp [AOp.kind] at hk
    · cases hc; simp [AOp.kind] at hk
    · rename_i e hs hd
      split at hc
      · rename_i he
        cases hc
        simp only [actV] at hv
        split at hv
        · rename_i b hb
          split at hv
          · cases hv
            rw [hb] at hx
            have e1 : a.eval x = .string b := by generalize a.eval x = u at hx; cases hx; rfl
            refine StepWp.leaves (m := convert src dst (a.eval x)) rfl ?_
            obtain ⟨ρ', w', v', h1, h2, h3, h4⟩ := bytes_sound (P := P) hR (e := e) b
            refine ⟨ρ', w', v', ?_, h2, h3, h4⟩
            rw [e1]
            simp only [convert, Sem.run_bind, run_underlying hs, run_underlying hd, run_underlying he, Result.andThen_ok]
            exact h1
          · cases hv
        · cases hv
      · cases hc
    · split at hc
      · cases hc; simp [AOp.kind] at hk
      · cases hc
    · rename_i e' e hs hd
      split at hc
      · rename_i he
        split at hc
        · rename_i heq
          cases hc
          subst heq
          simp only [actV] at hv
          have hx := hF.ev (x := x) (by simpa using ho)
          exact StepWp.leaves (m := convert src src (a.eval x)) rfl (strish_sound hR hd he hx hv)
        · cases hc
      · cases hc
    · cases hc
  case mapUpdate t m k x =>
    simp at ho
    have hm := hF.ev ho.1
    have hkk := hF.ev ho.2.1
    have hx := hF.ev ho.2.2
    split at hc
    · rename_i kt e ht
      obtain ⟨at_, hat, rfl⟩ := Option.map_eq_some_iff.1 hc
      simp only [actV] at hv
      split at hv
      · rename_i B hB
        rw [hB] at hm
        split at hv
        · rename_i es ck hg
          have hmm : ∃ L, a.eval m = .map (some L.b) ∧ ρ B = some L := by
            generalize a.eval m = u at hm
            cases hm; exact ⟨_, rfl, by assumption⟩
          obtain ⟨L, e1, hL⟩ := hmm
          obtain ⟨L', g1, es', g2, g3⟩ := hR.blk _ _ hg
          rw [hL] at g1; cases g1
          have hob := getObj_map (P := P) g2
          split at hv
          · rename_i j x0 hf
            split at hv
            · rename_i e0 he0
              split at hv
              · rename_i hsk
                cases hv
                obtain ⟨h1, q, h2, h3⟩ := findKey_sound (P := P) (ρ := ρ) (w := w) false hat hkk g3 hf
                cases q with
                | none => exact h3.elim
                | some q =>
                obtain ⟨rfl, h3⟩ := h3
                have hj : q.1 < es'.toList.length := by have := (List.getElem?_eq_some_iff.1 he0).1; have := g3.1; omega
                have hent := g3.2 q.1 e0 (es'.toList[q.1]) he0 (List.getElem?_eq_getElem hj)
                have hbits := sameKey_bits hsk hkk hent.1
                have hes : EsR ρ (es.set q.1 (evO fr k, evO fr x, e0.2.2)) (es'.modify q.1 fun e => { e with key := a.eval k, val := a.eval x }).toList := by
                  have := g3.set (i := q.1) (b := e0.2.2) hkk hx
                  have e2 : (es'.modify q.1 fun e => { e with key := a.eval k, val := a.eval x }).toList = es'.toList.set q.1 ⟨a.eval k, a.eval x, e0.2.2⟩ := by
                    apply List.ext_getElem?
                    intro i
                    rw [Array.getElem?_toList, Array.getElem?_modify, List.getElem?_set]
                    by_cases hi : q.1 = i
                    · subst hi
                      rw [if_pos rfl, if_pos rfl, if_pos hj]
                      rw [← Array.getElem?_toList, List.getElem?_eq_getElem hj]
                      simp only [Option.map_some, hent.2.2]
                    · rw [if_neg hi, if_neg hi, Array.getElem?_toList]
                  rw [e2]; exact this
                obtain ⟨w', r1, r2, r3⟩ := hR.setMap (P := P) hL hg (ck1 := ck) hes
                refine StepWp.unit (m := Instr.mapUpdate t (a.eval m) (a.eval k) (a.eval x)) rfl ρ w' ?_ r2 r3
                have hkey : ((es'[q.1]?).map (·.key)).getD (a.eval k) = (es'.toList[q.1]).key := by
                  rw [← Array.getElem?_toList, List.getElem?_eq_getElem hj]; rfl
                rw [e1]
                simp only [Instr.mapUpdate, Sem.run_bind, run_underlying ht, Result.andThen_ok, hob, h1, h2, hkey, Instr.keyThatStays, hbits, if_true, Sem.run_pure, r1]
              · cases hv
            · cases hv
          · rename_i hf
            cases hv
            obtain ⟨h1, q, h2, h3⟩ := findKey_sound (P := P) (ρ := ρ) (w := w) false hat hkk g3 hf
            cases q with
            | some q => exact h3.elim
            | none =>
            have hes : EsR ρ (es ++ [(evO fr k, evO fr x, ck)]) (es'.push { key := a.eval k, val := a.eval x, born := ck }).toList := by
              have := g3.append (b := ck) hkk hx
              simpa using this
            obtain ⟨w', r1, r2, r3⟩ := hR.setMap (P := P) hL hg (ck1 := ck + 1) hes
            refine StepWp.unit (m := Instr.mapUpdate t (a.eval m) (a.eval k) (a.eval x)) rfl ρ w' ?_ r2 r3
            rw [e1]
            simp only [Instr.mapUpdate, Sem.run_bind, run_underlying ht, Result.andThen_ok, hob, h1, h2, r1]
          · cases hv
        · cases hv
      · cases hv
    · cases hc
  case call c => exact compCall_act hX hcf hR rfl hc hk (by simpa using ho) hF hv
  all_goals
    repeat' first
      | (cases hc; done)
      | (cases hc; simp [AOp.kind] at hk; done)
      | (obtain ⟨_, _, rfl⟩ := Option.map_eq_some_iff.1 hc; simp [AOp.kind] at hk; done)
      | split at hc
theorem step_sound {s s' : AS H} {cf : CallF H} (hX : ExtOk P) (hcf : CfOk P cf) (hR : Rep ρ s w) {o : Oper} {ao : AOp} {nt : Nat} {a : Act} {fr : F} {v : Value} (hc : compOp P o = some ao)
    (ho : o.op.operands.all (oprOk nt) = true) (hF : FrR ρ nt fr a) (hv : stepV cf fr s ao = some (v, s')) : StepWp P ρ s w o a v s' := by
  unfold stepV at hv
  split at hv
  · rename_i hk
    obtain ⟨u, hu, he⟩ := Option.map_eq_some_iff.1 hv
    simp only [Prod.mk.injEq] at he
    obtain ⟨rfl, rfl⟩ := he
    exact .quiet hR (pure_sound hc hk ho hF hu)
  · rename_i hk
    obtain ⟨u, hu, he⟩ := Option.map_eq_some_iff.1 hv
    simp only [Prod.mk.injEq] at he
    obtain ⟨rfl, rfl⟩ := he
    exact .quiet hR (read_sound hR hc hk ho hF hu)
  · rename_i hk
    obtain ⟨⟨u, b⟩, hu, he⟩ := Option.map_eq_some_iff.1 hv
    simp only [Prod.mk.injEq] at he
    obtain ⟨rfl, rfl⟩ := he
    exact .new hR (newV_rw hu) (new_sound (hR.fresh _ (Nat.le_refl _)) hc hk ho hF hu)
  · rename_i hk
    exact act_sound hX hcf hR hc hk ho hF hv
end
end Go.Vam
