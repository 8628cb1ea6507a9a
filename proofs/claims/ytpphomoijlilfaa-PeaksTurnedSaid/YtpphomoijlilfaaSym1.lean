/- Runs of code that is told piece by piece. -/
import Derived.Test.YtpphomoijlilfaaVam25
namespace Go.Vam
open Go

section
variable {F H : Type} [Store F Value] [Store H ABlk] {cf : CallF H} {n : Nat}

theorem call_of {fns : FuncId → Option AFn} {f : FuncId} {fn : AFn} {args : List Value} {s s' : AS H} {fr' : F} {vs : List Value} (hf : fns f = some fn) (hl : args.length ≤ fn.ntmps)
    (h : evC (evCall F fns n) n fn.body (frameOf args 0 (Store.emp : F)) s = some (.ret, fr', s')) (hr : resVs fr' s' fn.results = some vs) : evCall F fns (n + 1) f args s = some (packV vs, s') := by
  simp only [evCall, hf, hl, if_true, h, hr, Option.map_some]

theorem seq_of {a b : ACode} {fr fr1 : F} {s s1 : AS H} {r : Option (AExit × F × AS H)} (h : evC cf n a fr s = some (.normal, fr1, s1)) (g : evC cf n b fr1 s1 = r) : evC cf n (.seq a b) fr s = r := by
  simp only [evC, h, g]

theorem seq_ret {a b : ACode} {fr fr1 : F} {s s1 : AS H} (h : evC cf n a fr s = some (.ret, fr1, s1)) : evC cf n (.seq a b) fr s = some (.ret, fr1, s1) := by
  simp only [evC, h]

theorem seq_exit {a b : ACode} {fr fr1 : F} {s s1 : AS H} {k : Nat} (h : evC cf n a fr s = some (.exit k, fr1, s1)) : evC cf n (.seq a b) fr s = some (.exit k, fr1, s1) := by
  simp only [evC, h]

theorem cond_true {c : Operand} {a b : ACode} {fr : F} {s : AS H} {r : Option (AExit × F × AS H)} (hc : evO fr c = .bool true) (h : evC cf n a fr s = r) : evC cf n (.cond c a b) fr s = r := by
  simp only [evC, hc, h]

theorem cond_false {c : Operand} {a b : ACode} {fr : F} {s : AS H} {r : Option (AExit × F × AS H)} (hc : evO fr c = .bool false) (h : evC cf n b fr s = r) : evC cf n (.cond c a b) fr s = r := by
  simp only [evC, hc, h]

theorem ops_of {l : List AOper} {fr fr1 : F} {s s1 : AS H} (h : evOps cf l fr s = some (fr1, s1)) : evC cf n (.ops l) fr s = some (.normal, fr1, s1) := by
  simp only [evC, h]

theorem ops_nil {fr : F} {s : AS H} : evOps cf [] fr s = some (fr, s) := rfl

theorem ops_cons {o : AOper} {l : List AOper} {fr : F} {s s1 : AS H} {v : Value} {r : Option (F × AS H)} (hw : wantV fr o.guard = true) (hst : stepV cf fr s o.op = some (v, s1)) (h : evOps cf l (puT fr o.dst v) s1 = r) :
    evOps cf (o :: l) fr s = r := by
  simp only [evOps, hw, if_true, hst, h]

theorem ops_skip {o : AOper} {l : List AOper} {fr : F} {s : AS H} {r : Option (F × AS H)} (hw : wantV fr o.guard = false) (h : evOps cf l (puT fr o.dst undefV) s = r) :
    evOps cf (o :: l) fr s = r := by
  simp only [evOps, hw, Bool.false_eq_true, if_false, h]

end
/-- A CALL WHOSE ARGUMENTS NAME NO MEMORY. -/
theorem plain_call {P : Program} (hX : ExtOk P) (hm : P.follows .mixedOrders = true) {n : Nat} {f : FuncId} {args args' : List Value} {s' : AS (Trie ABlk)} (hargs : VL (fun _ => none) args args')
    (h : evCall (Trie Value) (fnsOf P) n f args none0 = some (.bool true, s')) (w : World) : Calls P f args'.toArray w fun e w' => e = .returned (.bool true) ∧ RowKit.Below w.heap.size w w' := by
  obtain ⟨_, hc⟩ := evCall_sound hX hm (fnsOf_ok P) n f args none0 (.bool true) s' h (fun _ => none) w args' hargs (rep_none w)
  refine hc.mono fun e w' he => ?_
  obtain ⟨ρ', v', rfl, h1, _, h3⟩ := he
  cases h1
  exact ⟨rfl, h3.below fun _ => rfl⟩

end Go.Vam
