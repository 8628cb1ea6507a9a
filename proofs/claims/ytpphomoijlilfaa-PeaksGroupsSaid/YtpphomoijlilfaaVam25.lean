/- A program's own table; a call that the kernel runs to its end. -/
import Derived.Test.YtpphomoijlilfaaVam24
import Derived.Below
import Derived.ChangeSame
import Derived.Laws.Entries
namespace Go.Vam
open Go
def fnsOf (P : Program) (f : FuncId) : Option AFn := match P.funcs[f]? with
  | some fn => if fn.name = "runtime.NumGoroutine" then none else compFn P fn
  | none => none
theorem fnsOf_ok (P : Program) : FnsOk P (fnsOf P) := by
  intro f afn h
  unfold fnsOf at h
  split at h
  · rename_i fn hfn
    split at h
    · cases h
    · rename_i hn; exact ⟨fn, hfn, h, hn⟩
  · cases h
theorem Ext.below {H : Type} [Store H ABlk] {ρ ρ' : Rho} {s s' : AS H} {w w' : World} (h : Ext ρ s w ρ' s' w') (hs : ∀ B, ¬ Rw s B) : RowKit.Below w.heap.size w w' :=
  ⟨h.os, h.tape, h.output, h.size, fun k hk => h.frame k hk fun B _ hB _ => absurd hB (hs B)⟩
def endsTrue : Option (Value × AS (Trie ABlk)) → Bool
  | some (.bool b, _) => b
  | _ => false
theorem endsTrue_iff {r : Option (Value × AS (Trie ABlk))} (h : endsTrue r = true) : ∃ s', r = some (.bool true, s') := by
  unfold endsTrue at h
  split at h
  · subst h; exact ⟨_, rfl⟩
  · cases h
def none0 : AS (Trie ABlk) := ⟨.leaf, 0⟩
theorem rep_none (w : World) : Rep (fun _ => none) none0 w :=
  ⟨fun _ _ hB => (nomatch hB), fun _ _ _ _ hB => absurd hB (by rintro ⟨k, hk, _⟩; cases hk), fun _ _ => rfl, fun _ _ hB => (nomatch hB)⟩
theorem closed_call {P : Program} (hX : ExtOk P) (hm : P.follows .mixedOrders = true) (n : Nat) (f : FuncId) (h : endsTrue (evCall (Trie Value) (fnsOf P) n f [] none0) = true) (w : World) :
    Calls P f #[] w fun e w' => e = .returned (.bool true) ∧ RowKit.Below w.heap.size w w' := by
  obtain ⟨s', hs⟩ := endsTrue_iff h
  obtain ⟨_, hc⟩ := evCall_sound hX hm (fnsOf_ok P) n f [] none0 (.bool true) s' hs (fun _ => none) w [] (.nil _) (rep_none w)
  refine hc.mono fun e w' he => ?_
  obtain ⟨ρ', v', rfl, h1, _, h3⟩ := he
  cases h1
  exact ⟨rfl, h3.below fun _ => (by rintro ⟨k, hk, _⟩; cases hk)⟩
theorem post_of_below {H : Type} {enc : TypeId × Value → H} {P : Program} {f : Func} {s : ChangeSpec} {apart fresh handsOn again : Bool} {W W' : World} {args : Array Value} {v : Value} {ds gs : List (DataW H)} {before pa pv : List MemPlace}
    (hW : DataW.Whole enc P f.params.toList s.vars apart W args.toList ds gs before) (hb : RowKit.Below W.heap.size W W')
    (hres : ∀ (b : Nat) (sp : Nat → Bool) (hd : Bool), DataW.TrodAll enc P W' b sp hd f.resultTypes.toList (v.resultList f.resultTypes.size) (s.fn H (ds ++ gs)).results [])
    (hargs : ∀ sp : Nat → Bool, (∀ p ∈ before, sp p.block = true) → DataW.TrodAll enc P W' 0 sp true f.params.toList args.toList (s.fn H (ds ++ gs)).args pa)
    (hvars : ∀ sp : Nat → Bool, (∀ p ∈ before, sp p.block = true) → DataW.TrodVars enc P W' sp s.vars (s.fn H (ds ++ gs)).vars pv)
    (hps : before = pa ++ pv)
    (hok : ∀ (j : Nat) (t : TypeId) (r : Value), f.resultTypes[j]? = some t → (v.resultList f.resultTypes.size)[j]? = some r → Value.okWide P W' .any 0 t r) :
    s.post enc P f apart fresh handsOn again W args v W' := by
  have hlt := hW.lt
  have hold : ∀ p ∈ before, (fun b => decide (b < W.heap.size)) p.block = true := fun p hp => by simpa using hlt p hp
  refine ⟨ds, gs, before, [], pa, pv, hW, hres _ _ _, hargs _ hold, hvars _ hold, World.keptBut_mono (fun p hp => ⟨hp, ?_⟩) (hb.frame (· ∈ before)), fun _ => ?_⟩
  · rw [hps, List.mem_append] at hp
    exact Or.inr hp
  · obtain ⟨_, _, _, _, _, hz, hn⟩ := hW
    refine ⟨hok, _, _, ([] ++ pa) ++ pv, ⟨[] ++ pa, pv, ChangeShapes.trodAll_append (hargs _ (fun _ _ => rfl)) (hres _ _ _), hvars _ (fun _ _ => rfl), rfl, ?_, ?_⟩, ?_⟩
    · intro b off hp
      have hm : MemPlace.cell b off ∈ before := by rw [hps]; simpa using hp
      rw [hb.frozen (hlt _ hm)]
      exact hz b off hm
    · intro ha
      have := hn ha
      rw [hps] at this
      simpa using this
    · intro p hp _
      rw [hps]
      simpa using hp
theorem andNot_top (b : Nat) : (bits BinOp.andNot .u64 (b : Int) 9223372036854775808).toNat = b % 9223372036854775808 := by
  have h : (BitVec.ofInt 64 (b : Int) &&& ~~~ BitVec.ofInt 64 9223372036854775808).toNat = b % 9223372036854775808 := by
    apply Nat.eq_of_testBit_eq
    intro i
    have e : (9223372036854775808 : Nat) = 2 ^ 63 := rfl
    rw [e, Nat.testBit_mod_two_pow]
    simp only [BitVec.toNat_and, BitVec.toNat_not, BitVec.toNat_ofInt]
    rw [Nat.testBit_and, show ((b : Int) % ((2 ^ 64 : Nat) : Int)).toNat = b % 2 ^ 64 by omega, show (2 ^ 64 - 1 - ((9223372036854775808 : Int) % ((2 ^ 64 : Nat) : Int)).toNat) = 2 ^ 63 - 1 by decide,
      Nat.testBit_mod_two_pow, Nat.testBit_two_pow_sub_one]
    by_cases hi : i < 63
    · simp [hi, show i < 64 by omega]
    · simp [hi]
  show (IntKind.u64.wrap ((BitVec.ofInt 64 (b : Int) &&& ~~~ BitVec.ofInt 64 9223372036854775808).toNat : Int)).toNat = _
  rw [h]
  simp only [IntKind.wrap, IntKind.bits, IntKind.signed]
  simp
  omega
end Go.Vam
