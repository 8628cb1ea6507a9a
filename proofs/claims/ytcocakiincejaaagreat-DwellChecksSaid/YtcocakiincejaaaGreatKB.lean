/- Closed calls that are known by a machine with a memory of its own: what they come to, in memory of whatever kind. -/
import Derived.Test.YtcocakiincejaaaGreatWpA
import Derived.Test.YtcocakiincejaaaGreatKA
namespace Go.Vam
open Go

variable {P : Program} {H : Type} [Store H ABlk]

/-- What a run with nothing in memory comes to, told of memory that is there: the new blocks are kept, what they hold is forgotten. -/
def closedS (r : Option (Value × KS)) (s : AS H) : Option (Value × AS H) := match r with
  | some (v, s0) => (shiftR s.nxt v).map fun v' => (v', { s with nxt := s.nxt + s0.nxt })
  | none => none

/-- Calls that are known: one that answers true, others that come to a slice and an error number. -/
def orcK (w : FuncId) (K : FuncId → List Value → Bool) (R : FuncId → List Value → Option (Value × KS)) : CallF H := fun f args s =>
  if f = w ∧ args = [] then some (.bool true, s)
  else if K f args = true then closedS (R f args) s
  else none

theorem rep_noneT (w : World) : Rep (fun _ => none) none2 w :=
  ⟨fun _ _ hB => (nomatch hB), fun _ _ _ _ hB => absurd hB (by rintro ⟨k, hk, _⟩; cases hk), fun _ _ => rfl, fun _ _ hB => (nomatch hB)⟩

theorem orcK_ok {cf : CallF (Tri ABlk)} (hcf : CfOk P cf) (w : FuncId) (K : FuncId → List Value → Bool) (hw : ∃ fn, P.funcs[w]? = some fn ∧ fn.body.isSome ∧ fn.name ≠ "runtime.NumGoroutine")
    (hc : ∀ W : World, Calls P w #[] W fun e W' => e = .returned (.bool true) ∧ RowKit.Below W.heap.size W W') (hK : ∀ f args, K f args = true → args.all plainV = true) : OrcOk (H := H) P (orcK w K fun f args => cf f args none2) := by
  intro f args s v s' he ρ W args' hargs hR
  unfold orcK at he
  split at he
  · rename_i h
    obtain ⟨rfl, rfl⟩ := h
    cases he
    refine ⟨hw, ?_⟩
    have e : args' = [] := List.eq_nil_of_length_eq_zero (by simpa using hargs.1.symm)
    subst e
    refine (hc W).mono fun e W' ⟨a, b⟩ => ?_
    obtain ⟨g3, g4⟩ := hR.below b
    exact ⟨ρ, _, a, .bool true, g3, g4⟩
  · split at he
    · rename_i hk
      unfold closedS at he
      split at he
      · rename_i v0 s0 hs
        obtain ⟨v1, hv1, hvs⟩ := Option.map_eq_some_iff.1 he
        cases hvs
        obtain ⟨hfn, hcall⟩ := hcf f args none2 v0 s0 hs (fun _ => none) W args' (plain_same hargs (hK f args hk)) (rep_noneT W)
        refine ⟨hfn, hcall.mono fun e W' hh => ?_⟩
        obtain ⟨ρ1, v', rfl, g1, g2, g3⟩ := hh
        have hbelow : RowKit.Below W.heap.size W W' := g3.below fun _ => (by rintro ⟨k, hk, _⟩; cases hk)
        obtain ⟨k1, k2⟩ := hR.below hbelow
        obtain ⟨ρ', hρ⟩ : ∃ ρ' : Rho, ρ' = fun B => if B < s.nxt then ρ B else ρ1 (B - s.nxt) := ⟨_, rfl⟩
        have old : ∀ B, B < s.nxt → ρ' B = ρ B := fun B hB => by rw [hρ]; exact if_pos hB
        have nw : ∀ B, ρ' (B + s.nxt) = ρ1 B := fun B => by
          rw [hρ]
          show (if B + s.nxt < s.nxt then _ else _) = _
          rw [if_neg (by omega), Nat.add_sub_cancel]
        have hsub : Sub ρ ρ' := fun B L hB => by
          rcases Nat.lt_or_ge B s.nxt with h | h
          · rw [old B h]; exact hB
          · rw [hR.fresh B h] at hB; cases hB
        have hfr : ∀ B, s.nxt + s0.nxt ≤ B → ρ' B = none := fun B hB => by
          obtain ⟨C, rfl⟩ : ∃ C, B = C + s.nxt := ⟨B - s.nxt, by omega⟩
          rw [nw, g2.fresh C (by omega)]
        have hlow : ∀ B b, Store.get s.h B = some b → B < s.nxt := fun B b hB => by
          obtain ⟨L, h1, _⟩ := hR.blk B b hB
          rcases Nat.lt_or_ge B s.nxt with h | h
          · exact h
          · rw [hR.fresh B h] at h1; cases h1
        refine ⟨ρ', v', rfl, ?_, ⟨?_, ?_, hfr, ?_⟩, ⟨Nat.le_add_right _ _, old, k2.os, k2.tape, k2.output, k2.size, k2.frame, ?_, fun _ _ h => h⟩⟩
        · -- the value
          unfold shiftR at hv1
          split at hv1
          · rename_i vs
            cases g1 with
            | tuple hl hh =>
              unfold shiftL at hv1
              split at hv1
              · rename_i k e hvs
                cases hv1
                rw [hvs] at hl hh
                refine .tuple hl fun i u u' hu hu' => ?_
                have h := hh i u u' hu hu'
                match i, hu with
                | 0, hu => cases hu; cases h; exact .slNil
                | 1, hu => cases hu; cases h; exact .int _ _
              · rename_i B o len cap k e hvs
                cases hv1
                rw [hvs] at hl hh
                refine .tuple hl fun i u u' hu hu' => ?_
                match i, hu with
                | 0, hu =>
                  cases hu
                  have h := hh 0 _ u' rfl hu'
                  cases h with
                  | sl h hc => exact .sl (by rw [nw]; exact h) hc
                  | slOpen h ht hl2 hz => exact .slOpen (by rw [nw]; exact h) ht hl2 hz
                  | slOpen0 h hz => exact .slOpen0 (by rw [nw]; exact h) hz
                  | slHalf h ht hl2 hz => exact .slHalf (by rw [nw]; exact h) ht hl2 hz
                | 1, hu =>
                  cases hu
                  have h := hh 1 _ u' rfl hu'
                  cases h; exact .int _ _
              · cases hv1
          · cases hv1
        · intro B b hB
          obtain ⟨L, h1, h2⟩ := k1.blk B b hB
          exact ⟨L, hsub B L h1, h2.mono hsub⟩
        · rintro B B' L L' ⟨k, hk1, hk2⟩ hB' hL hL' e
          have b1 := hlow B k hk1
          have b2 : B' < s.nxt := by
            cases hb : Store.get s.h B' with
            | none => rw [hb] at hB'; cases hB'
            | some b => exact hlow B' b hb
          rw [old B b1] at hL
          rw [old B' b2] at hL'
          exact k1.inj B B' L L' ⟨k, hk1, hk2⟩ hB' hL hL' e
        · intro B L hL
          rcases Nat.lt_or_ge B s.nxt with h | h
          · rw [old B h] at hL; exact k1.lt B L hL
          · obtain ⟨C, rfl⟩ : ∃ C, B = C + s.nxt := ⟨B - s.nxt, by omega⟩
            rw [nw] at hL
            exact g2.lt C L hL
        · rintro B L ⟨k, hk1, hk2⟩ hL
          rw [old B (hlow B k hk1)] at hL
          exact .inr ⟨B, L, ⟨k, hk1, hk2⟩, hL, rfl⟩
      · cases he
    · cases he

end Go.Vam
