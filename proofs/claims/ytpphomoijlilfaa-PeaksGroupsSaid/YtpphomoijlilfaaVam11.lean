/- Operations that make new blocks. -/
import Derived.Test.YtpphomoijlilfaaVam10
namespace Go.Vam
open Go
section
variable {P : Program} {ρ : Rho} {w : World} {F : Type} [Store F Value]
theorem repZ_length (z : List Value) (n : Nat) : (repZ z n).length = n * z.length := by
  induction n with
  | zero => simp [repZ]
  | succ n ih => simp [repZ, ih, Nat.add_mul]; omega
theorem repZ_get (z : List Value) : ∀ (n i : Nat), i < n * z.length → (repZ z n)[i]? = z[i % z.length]? := by
  intro n
  induction n with
  | zero => intro i h; simp at h
  | succ n ih =>
    intro i h
    simp only [repZ]
    rcases Nat.lt_or_ge i z.length with hi | hi
    · rw [List.getElem?_append_left hi, Nat.mod_eq_of_lt hi]
    · rw [List.getElem?_append_right hi, ih (i - z.length) (by rw [Nat.succ_mul] at h; omega), Nat.mod_eq_sub_mod hi]
theorem range_rep (z : Array Value) (n : Nat) : ((Array.range (n * z.size)).map (z[· % z.size]!)).toList = repZ z.toList n := by
  apply List.ext_getElem?
  intro i
  rcases Nat.lt_or_ge i (n * z.size) with h | h
  · rw [repZ_get z.toList n i (by simpa using h)]
    have hz : 0 < z.size := by
      rcases Nat.eq_zero_or_pos z.size with e | e
      · rw [e] at h; simp at h
      · exact e
    have hm := Nat.mod_lt i hz
    simp [h, hm, Array.getElem!_eq_getD, Array.getD]
  · rw [List.getElem?_eq_none (by simp; omega), List.getElem?_eq_none (by rw [repZ_length]; simpa using h)]
theorem VL.repZ {z : List Value} (h : VL ρ z z) (n : Nat) : VL ρ (Vam.repZ z n) (Vam.repZ z n) := by
  induction n with
  | zero => exact .nil ρ
  | succ n ih => exact h.append ih
theorem BR.cellsNew {ρ' : Rho} {L : Loc} {w' : World} {cs : List Value} {c : Array Value} {o : Bool} {elem : TypeId} (hL : L = ⟨w.heap.size, 0, c.size, 0, (0, 0), elem⟩)
    (hw : w'.heap[L.b]? = some (.cells c elem)) (h : VL ρ' cs c.toList) : BR ρ' L w' (.cells cs o) := by
  subst hL
  have hl := h.1
  refine ⟨c, hw, rfl, .inl rfl, by simp at hl ⊢; omega, fun i v hv => ?_⟩
  obtain ⟨v', h1, h2⟩ := h.get hv
  exact ⟨v', by simpa using h1, h2⟩
theorem upd_self (ρ : Rho) (B : Nat) (L : Loc) : upd ρ B L B = some L := by simp [upd]
theorem run_newRow (e : TypeId) (c : Array Value) : (newRow e c).run P w = .ok ⟨w.heap.size, 0, none⟩ (w.alloc (.cells c e)) := rfl
theorem wrap_small {n : Int} (h0 : 0 ≤ n) (h : n < 4611686018427387904) : IntKind.i64.wrap n = n := by
  rw [← wrapK_eq]
  simp only [wrapK]
  have : n % 18446744073709551616 = n := Int.emod_eq_of_lt h0 (by omega)
  rw [this, if_neg (by omega)]
theorem new_sound {o : Oper} {ao : AOp} {nt : Nat} {a : Act} {fr : F} {v : Value} {b : ABlk} {id : Nat} (hid : ρ id = none) (hc : compOp P o = some ao) (hk : ao.kind = .new)
    (ho : o.op.operands.all (oprOk nt) = true) (hF : FrR ρ nt fr a) (hv : newV fr id ao = some (v, b)) :
    ∃ obj L v', (execOp a.eval o).run P w = .ok (.value v') (w.alloc obj) ∧ L.b = w.heap.size ∧ VR (upd ρ id L) v v' ∧
      ∀ w' : World, w'.heap[L.b]? = some obj → BR (upd ρ id L) L w' b := by
  have hsub := fun L => Sub.upd (ρ := ρ) L hid
  obtain ⟨dst, op, type, pos, after, guard⟩ := o
  simp only at ho
  cases op <;> simp only [compOp, reduceCtorEq] at hc <;> simp only [Op.operands] at ho
  case alloc e =>
    obtain ⟨z, hz, rfl⟩ := Option.map_eq_some_iff.1 hc
    obtain ⟨i, zv, hi, hzv, hsz, rfl, hzz⟩ := zeroOf_spec (ρ := ρ) hz
    simp only [newV, Option.some.injEq, Prod.mk.injEq] at hv
    obtain ⟨rfl, rfl⟩ := hv
    refine ⟨.cells zv.cells e, ⟨w.heap.size, 0, zv.cells.size, 0, (0, 0), e⟩, _, ?_, rfl, VR.ptr (upd_self _ _ _), fun w' hw' => BR.cellsNew (w := w) rfl hw' (hzz.mono (hsub _))⟩
    simp only [execOp, Instr.alloc, Sem.run_bind, run_zero hi hzv, Result.andThen_ok, newVar, run_newRow, Sem.run_pure]
  case box e x =>
    cases hc
    have hx := hF.ev (x := x) (by simpa using ho)
    simp only [newV, Option.some.injEq, Prod.mk.injEq] at hv
    obtain ⟨rfl, rfl⟩ := hv
    refine ⟨.cells (a.eval x).cells e, ⟨w.heap.size, 0, (a.eval x).cells.size, 0, (0, 0), e⟩, _, ?_, rfl, VR.ptr (upd_self _ _ _), fun w' hw' => BR.cellsNew (w := w) rfl hw' (hx.cells.mono (hsub _))⟩
    simp only [execOp, Instr.box, Sem.run_bind, newVar, run_newRow, Result.andThen_ok, Sem.run_pure]
  case buildSlice t len parts =>
    split at hc
    · rename_i e ht
      split at hc
      · rename_i sz z hsz hz
        split at hc
        · rename_i hlen
          cases hc
          obtain ⟨i, zv, hi, hzv, hzs, rfl, hzz⟩ := zeroOf_spec (ρ := ρ) hz
          have hisz : i.size = sz := by
            simp [sizeT, hi] at hsz; exact hsz
          simp only [newV] at hv
          obtain ⟨out, hout, he⟩ := Option.map_eq_some_iff.1 hv
          simp only [Prod.mk.injEq] at he
          obtain ⟨rfl, rfl⟩ := he
          have hparts := fun (c0 : Array Value) (h0 : c0.toList = repZ zv.cells.toList len) => fill_sound (ρ := ρ) (fun i => some (i * sz, sz)) _
              ((parts.map fun x => (x.1, a.eval x.2)).toList) (repZ zv.cells.toList len) out c0 hout (by rw [h0]; exact hzz.repZ len) (by simp) (fun j p q hp' hq => by
                simp only [List.getElem?_map, Option.map_eq_some_iff, Array.toList_map] at hp' hq
                obtain ⟨p0, hp0, rfl⟩ := hp'
                obtain ⟨q0, hq0, rfl⟩ := hq
                rw [hp0] at hq0; cases hq0
                refine ⟨rfl, hF.ev ?_⟩
                have hm : p0 ∈ parts.toList := List.mem_of_getElem? hp0
                simp only [List.all_toArray, List.all_map, List.all_eq_true] at ho
                exact ho p0 hm)
          have hrun : ∃ c', (execOp a.eval { dst, op := .buildSlice t len parts, type, pos, after, guard }).run P w = .ok (.value (.slice (some ⟨w.heap.size, 0, none⟩) len len)) (w.alloc (.cells c' e)) ∧ VL ρ out c'.toList := by
            have hle : ¬ len * sz > 2 ^ 24 := by omega
            simp only [execOp, Instr.buildSlice, Sem.run_bind, run_underlying ht, Result.andThen_ok, run_sizeT hsz]
            rw [if_neg hle]
            by_cases h0 : len * sz = 0
            · rw [if_pos h0]
              obtain ⟨c', hc', hvc⟩ := hparts ((Array.range (len * sz)).map ((#[] : Array Value)[· % (#[] : Array Value).size]!)) (by
                rw [h0]
                have hl0 : (repZ zv.cells.toList len).length = 0 := by rw [repZ_length]; simp [hzs, hisz, h0]
                rw [List.length_eq_zero_iff.1 hl0]; simp)
              exact ⟨c', by simp only [Sem.run_pure, Result.andThen_ok, hc', Sem.run_bind, run_newRow], hvc⟩
            · rw [if_neg h0]
              obtain ⟨c', hc', hvc⟩ := hparts ((Array.range (len * sz)).map (zv.cells[· % zv.cells.size]!)) (by
                have : sz = zv.cells.size := by omega
                rw [this]; exact range_rep zv.cells len)
              exact ⟨c', by simp only [Sem.run_pure, Result.andThen_ok, run_zero hi hzv, hc', Sem.run_bind, run_newRow], hvc⟩
          obtain ⟨c', hrun, hvc⟩ := hrun
          exact ⟨.cells c' e, ⟨w.heap.size, 0, c'.size, 0, (0, 0), e⟩, _, hrun, rfl, VR.sl (off := 0) (upd_self _ _ _) (by omega), fun w' hw' => BR.cellsNew (w := w) rfl hw' (hvc.mono (hsub _))⟩
        · cases hc
      · cases hc
    · cases hc
  case makeSlice t l c =>
    simp at ho
    have hl := hF.ev ho.1
    have hcc := hF.ev ho.2
    split at hc
    · rename_i e ht
      split at hc
      · rename_i sz by_ z hsz hby hz
        cases hc
        obtain ⟨i, zv, hi, hzv, hzs, rfl, hzz⟩ := zeroOf_spec (ρ := ρ) hz
        have hisz : i.size = sz := by simp [sizeT, hi] at hsz; exact hsz
        have hiby : i.bytes = by_ := by simp [bytesT, hi] at hby; exact hby
        simp only [newV] at hv
        split at hv
        · rename_i k1 l0 k2 c0 el ec
          rw [el] at hl; rw [ec] at hcc
          split at hv
          · rename_i hb
            obtain ⟨b1, b2, b3, b4⟩ := hb
            cases hv
            have e1 : a.eval l = .int k1 l0 := by generalize a.eval l = u at hl; cases hl; rfl
            have e2 : a.eval c = .int k2 c0 := by generalize a.eval c = u at hcc; cases hcc; rfl
            have w1 := wrap_small b1 (by omega : l0 < 4611686018427387904)
            have w2 := wrap_small (by omega : 0 ≤ c0) b3
            have hrun : ∃ c' : Array Value, (execOp a.eval { dst, op := .makeSlice t l c, type, pos, after, guard }).run P w = .ok (.value (.slice (some ⟨w.heap.size, 0, none⟩) l0.toNat c0.toNat)) (w.alloc (.cells c' e)) ∧ c'.toList = repZ zv.cells.toList c0.toNat := by
              have hbig : ¬ ((by_ : Int) * c0 > 2 ^ 48) := by
                have : ((by_ * c0.toNat : Nat) : Int) ≤ 281474976710656 := Int.ofNat_le.2 b4
                have hc0 : ((c0.toNat : Nat) : Int) = c0 := by omega
                rw [Int.natCast_mul, hc0] at this
                omega
              simp only [execOp, Instr.makeSlice, Sem.run_bind, run_underlying ht, Result.andThen_ok, asInt, e1, e2, asIntOf, Sem.run_pure, run_typeInfo' hi, hiby, w1, w2]
              rw [if_neg (by simp; omega)]
              simp only [Result.andThen_ok, Sem.run_bind, run_askRoom, run_sizeT hsz]
              by_cases h0 : c0.toNat * sz = 0
              · rw [if_pos h0]
                refine ⟨_, by simp only [Sem.run_pure, Result.andThen_ok, Sem.run_bind, run_newRow]; rfl, ?_⟩
                rw [h0]
                have hl0 : (repZ zv.cells.toList c0.toNat).length = 0 := by rw [repZ_length]; simp [hzs, hisz, h0]
                rw [List.length_eq_zero_iff.1 hl0]; simp
              · rw [if_neg h0]
                refine ⟨_, by simp only [Sem.run_pure, Result.andThen_ok, Sem.run_bind, run_zero hi hzv, run_newRow]; rfl, ?_⟩
                have : sz = zv.cells.size := by omega
                rw [this]; exact range_rep zv.cells c0.toNat
            obtain ⟨c', hrun, hcl⟩ := hrun
            exact ⟨.cells c' e, ⟨w.heap.size, 0, c'.size, 0, (0, 0), e⟩, _, hrun, rfl, VR.sl (off := 0) (upd_self _ _ _) (by unfold OPEN; omega), fun w' hw' => BR.cellsNew (w := w) rfl hw' (by rw [hcl]; exact (hzz.repZ _).mono (hsub _))⟩
          · cases hv
        · cases hv
      · cases hc
    · cases hc
  case makeMap t r =>
    split at hc <;> cases hc
    simp only [newV, Option.some.injEq, Prod.mk.injEq] at hv
    obtain ⟨rfl, rfl⟩ := hv
    refine ⟨.map #[] 0, ⟨w.heap.size, 0, 0, 0, (0, 0), 0⟩, .map (some w.heap.size), ?_, rfl, VR.map (upd_self _ _ _), fun w' hw' => ⟨#[], hw', rfl, fun i e e' h => by simp at h⟩⟩
    simp only [execOp, Instr.makeMap, Option.map_none, Sem.run_bind, Sem.run_pure]
    rfl
  case call c =>
    exfalso
    obtain ⟨callee, args, argTypes⟩ := c
    simp only [compCall] at hc
    cases callee with
    | invoke r m => simp at hc
    | value f =>
      simp only at hc
      split at hc
      · split at hc
        · split at hc
          · cases hc; simp [AOp.kind] at hk
          · split at hc
            · cases hc
            · cases hc; simp [AOp.kind] at hk
        · cases hc
      · cases hc; simp [AOp.kind] at hk
    | builtin bb =>
      cases bb <;> simp only [reduceCtorEq] at hc
      all_goals
        first
          | (cases hc; simp [AOp.kind] at hk; done)
          | (split at hc <;> first
              | (cases hc; done)
              | (cases hc; simp [AOp.kind] at hk; done)
              | (split at hc <;> first
                  | (cases hc; done)
                  | (cases hc; simp [AOp.kind] at hk; done)
                  | (obtain ⟨_, _, rfl⟩ := Option.map_eq_some_iff.1 hc; simp [AOp.kind] at hk; done)
                  | (split at hc <;> first
                      | (cases hc; done)
                      | (cases hc; simp [AOp.kind] at hk; done)
                      | (split at hc <;> first
                          | (cases hc; done)
                          | (cases hc; simp [AOp.kind] at hk; done)))))
  all_goals
    repeat' first
      | (cases hc; done)
      | (cases hc; simp [AOp.kind] at hk; done)
      | (obtain ⟨_, _, rfl⟩ := Option.map_eq_some_iff.1 hc; simp [AOp.kind] at hk; done)
      | split at hc
theorem newV_rw {fr : F} {id : Nat} {op : AOp} {v : Value} {b : ABlk} (h : newV fr id op = some (v, b)) : b.rw = true := by
  cases op <;> simp only [newV, reduceCtorEq] at h
  case alloc => cases h; rfl
  case box => cases h; rfl
  case buildSlice => obtain ⟨cs, _, he⟩ := Option.map_eq_some_iff.1 h; cases he; rfl
  case makeSlice =>
    split at h
    · split at h
      · cases h; rfl
      · cases h
    · cases h
  case makeMap => cases h; rfl
end
end Go.Vam
