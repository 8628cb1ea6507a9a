/- What is handed in: a call's arguments. -/
import Derived.Test.YtpphomoijlilfaaVam30
import Derived.ChangeSame
namespace Go.Vam
open Go
section
variable {P : Program} {w : World} {H T : Type} [Store H ABlk] {enc : TypeId × Value → T} {base : Nat} {held : Bool}
def AbsV (P : Program) (s : AS H) (t : TypeId) (v : Value) (d : DataW T) : Prop := match P.underlying t with
  | some (.struct _) | some (.array _ _) => ∃ cs : Array Value, v = .agg cs ∧ Abs P s t cs.toList d
  | _ => Abs P s t [v] d
theorem AbsV.mono {s s' : AS H} (hs : ∀ B k, Store.get s.h B = some k → Store.get s'.h B = some k) {t : TypeId} {v : Value} {d : DataW T} (h : AbsV P s t v d) : AbsV P s' t v d := by
  unfold AbsV at h ⊢
  split at h
  · obtain ⟨cs, h1, h2⟩ := h; exact ⟨cs, h1, h2.mono hs⟩
  · obtain ⟨cs, h1, h2⟩ := h; exact ⟨cs, h1, h2.mono hs⟩
  · exact h.mono hs
theorem cell_noSl {r : Reach} {b0 : Nat} {t : TypeId} {v : Value} (hn : ¬ HasBlock w) (h : Cell.okWide P w r b0 t v) : ∀ a n c, v ≠ .slice (some a) n c := by
  intro a n c e
  subst e
  unfold Cell.okWide at h
  split at h
  all_goals first | (rename_i h2; cases h2; done) | skip
  all_goals first | (cases ‹Value.slice (some a) n c = _›; done) | skip
  unfold Cell.ok at h
  split at h
  all_goals first | (exact h.elim) | skip
  all_goals first | (cases ‹Value.slice (some a) n c = _›; done) | skip
  rename_i heq
  cases heq
  obtain ⟨_, _, _, _, row, cells, hs, _⟩ := h
  unfold World.shape? at hs
  split at hs
  · rename_i c' e' z' hc
    exact hn ⟨_, _, _, _, hc⟩
  · cases hs
theorem arg_place {r : Reach} {b0 k : Nat} {t : TypeId} {v : Value} {d : DataW T} {ps : List MemPlace}
    (hk : plainT P k t = true) (hval : Value.okWide P w r b0 t v) (hd : DataW.Trod enc P w base (fun _ => true) held t v d ps) (ρ : Rho) (s : AS H) (hR : Rep ρ s w) (hro : RoAll s) :
    ∃ (ρ' : Rho) (s' : AS H) (av : Value), More ρ s ρ' s' ∧ Rep ρ' s' w ∧ RoAll s' ∧ VR ρ' av v ∧ AbsV P s' t av d := by
  obtain ⟨fuel, hf⟩ := hd
  have hw : HasBlock w ∨ NoSl v.cells.toList := by
    rcases Classical.em (HasBlock w) with h | h
    · exact .inl h
    · right
      intro u hu
      unfold Value.okWide at hval
      split at hval
      · obtain ⟨cs, rfl, _, ts, _, _, hcs⟩ := hval
        obtain ⟨i, hi⟩ := List.mem_iff_getElem?.1 hu
        obtain ⟨u', _, h3⟩ := hcs i u (by simpa [Value.cells] using hi)
        exact cell_noSl h h3
      · obtain ⟨cs, rfl, _, ts, _, _, hcs⟩ := hval
        obtain ⟨i, hi⟩ := List.mem_iff_getElem?.1 hu
        obtain ⟨u', _, h3⟩ := hcs i u (by simpa [Value.cells] using hi)
        exact cell_noSl h h3
      · have hc := cell_noSl h hval
        have hcells : v.cells.toList = [v] := by
          cases v <;> first | rfl | (exfalso; unfold Cell.okWide Cell.ok at hval; simp at hval; done)
        rw [hcells] at hu
        simp at hu; subst hu; exact hc
  obtain ⟨ρ', s', acs, m, R, ro, vl, ab⟩ := place_of (H := H) fuel k t _ _ hw hk hf ρ s hR hro
  simp only at ab
  unfold AbsV
  unfold Value.okWide at hval
  cases k with
  | zero => cases hk
  | succ k =>
  simp only [plainT] at hk
  have one : v.cells.toList = [v] → ∃ av, acs = [av] ∧ VR ρ' av v := fun hc => by
    rw [hc] at vl
    match acs, vl with
    | [], vl => have := vl.1; simp at this
    | [av], vl => exact ⟨av, rfl, vl.head⟩
    | _ :: _ :: _, vl => have := vl.1; simp at this
  split at hk <;> rename_i ht <;> simp only [ht] at hval ⊢ <;> try (cases hk; done)
  all_goals first
    | (obtain ⟨cs, rfl, _⟩ := hval
       have hvl : VL ρ' acs cs.toList := vl
       exact ⟨ρ', s', .agg acs.toArray, m, R, ro, VL.agg (by simpa using hvl), acs.toArray, rfl, by simpa using ab⟩)
    | skip
  all_goals
    simp only [Cell.okWide, ht] at hval
    have hc : v.cells.toList = [v] := by
      cases v <;> simp only [Cell.ok, ht] at hval <;> rfl
    obtain ⟨av, rfl, hv⟩ := one hc
    exact ⟨ρ', s', av, m, R, ro, hv, ab⟩
end
end Go.Vam
