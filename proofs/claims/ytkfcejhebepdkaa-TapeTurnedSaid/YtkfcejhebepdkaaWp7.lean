/- One closed function is known. -/
import Derived.Test.YtkfcejhebepdkaaWp6
namespace Go.Vam
open Go

/-- What is known of calls: that one function, called with nothing, answers true. -/
def orcW (w : FuncId) (f : FuncId) (args : List Value) : Option Value := match args with
  | [] => if f = w then some (.bool true) else none
  | _ => none

theorem orcW_self (w : FuncId) : orcW w w [] = some (.bool true) := by simp [orcW]
theorem orcW_other {w f : FuncId} (h : f ≠ w) (args : List Value) : orcW w f args = none := by
  unfold orcW; split
  · rw [if_neg h]
  · rfl

theorem orcW_ok {P : Program} (hX : ExtOk P) (hm : P.follows .mixedOrders = true) (n : Nat) (f : FuncId) (h : endsTrue (evCall (Trie Value) (fnsOf P) n f [] none0) = true) : OrcOk P (orcW f) := by
  intro g args v hv
  unfold orcW at hv
  split at hv
  · split at hv
    · rename_i e
      subst e
      cases hv
      obtain ⟨s', hs⟩ := endsTrue_iff h
      refine ⟨?_, fun ρ args' w hargs => ?_⟩
      · cases n with
        | zero => cases hs
        | succ n =>
          simp only [evCall] at hs
          split at hs
          · cases hs
          · rename_i afn hafn
            obtain ⟨fn, h1, h2, h3⟩ := fnsOf_ok P g afn hafn
            refine ⟨fn, h1, ?_, h3⟩
            unfold compFn at h2
            split at h2
            · rename_i hb; rw [hb]; rfl
            · cases h2
      · have e : args' = [] := by
          have := hargs.1
          exact List.eq_nil_of_length_eq_zero (by simpa using this.symm)
        subst e
        exact (closed_call hX hm n g h w).mono fun e w' ⟨a, b⟩ => ⟨.bool true, a, .bool true, b⟩
    · cases hv
  · cases hv

end Go.Vam
