/- The closed wakes answers true: run by the kernel, some calls with plain arguments being known. -/
import Derived.Test.YtmfaodenkghmkaaGreatE0
namespace Go.Proofs.YtmfaodenkghmkaaGreat
open Go Go.Vam

def plainF : Value → Bool
  | .int _ _ | .float _ _ | .complex _ _ _ => true
  | .agg ⟨[.float _ _, .float _ _]⟩ => true
  | _ => false

theorem eqV_plain {u v : Value} (h : eqV u v = true) : u = v ∧ plainF v = true := by
  unfold eqV at h
  split at h
  · rename_i a b c d
    split at h
    · rename_i hac
      exact ⟨by rw [Nat.eq_of_beq_eq_true hac, Nat.eq_of_beq_eq_true h], rfl⟩
    · cases h
  · exact ⟨by rw [Nat.eq_of_beq_eq_true h], rfl⟩
  · exact ⟨by rw [Nat.eq_of_beq_eq_true h], rfl⟩
  · rename_i a b c d
    split at h
    · rename_i hac
      exact ⟨by rw [Nat.eq_of_beq_eq_true hac, Nat.eq_of_beq_eq_true h], rfl⟩
    · cases h
  · exact ⟨by rw [Nat.eq_of_beq_eq_true h], rfl⟩
  · cases h

theorem eqL_plain : ∀ {a b : List Value}, eqL a b = true → a = b ∧ b.all plainF = true := by
  intro a
  induction a with
  | nil => intro b h; cases b with
    | nil => exact ⟨rfl, rfl⟩
    | cons x l => cases h
  | cons x l ih => intro b h; cases b with
    | nil => cases h
    | cons y r =>
      unfold eqL at h
      split at h
      · rename_i hxy
        obtain ⟨rfl, hp⟩ := eqV_plain hxy
        obtain ⟨rfl, hq⟩ := ih h
        exact ⟨rfl, by rw [List.all_cons, hp, hq]; rfl⟩
      · cases h

theorem isV_spec {v : Value} {r : Option (Value × AS (Tri ABlk))} (h : isV v r = true) : ∃ s, r = some (v, s) ∧ plainF v = true := by
  unfold isV at h
  split at h
  · obtain ⟨rfl, hq⟩ := eqV_plain h
    exact ⟨_, rfl, hq⟩
  · cases h

theorem findT_mem : ∀ {l : List (List Value × Value)} {x : List Value} {v : Value}, findT l x = some v → ∃ a, (a, v) ∈ l ∧ eqL a x = true := by
  intro l
  induction l with
  | nil => intro x v h; cases h
  | cons p l ih =>
    obtain ⟨a, u⟩ := p
    intro x v h
    unfold findT at h
    split at h
    · rename_i he
      injection h with h
      exact ⟨a, by rw [h]; exact List.mem_cons_self .., he⟩
    · obtain ⟨b, hb, he⟩ := ih h
      exact ⟨b, List.mem_cons_of_mem _ hb, he⟩

theorem allOk_mem {E : List Value → Option (Value × AS (Tri ABlk))} : ∀ {l : List (List Value × Value)}, allOk E l = true → ∀ {a v}, (a, v) ∈ l → isV v (E a) = true := by
  intro l
  induction l with
  | nil => intro _ a v h; exact nomatch h
  | cons p l ih =>
    obtain ⟨b, u⟩ := p
    intro hok a v h
    unfold allOk at hok
    split at hok
    · rename_i hv
      rcases List.mem_cons.1 h with e | e
      · injection e with e1 e2
        rw [e1, e2]; exact hv
      · exact ih hok e
    · cases hok

theorem findT_spec {E : List Value → Option (Value × AS (Tri ABlk))} {l : List (List Value × Value)} {x : List Value} {v : Value} (h : findT l x = some v) (hok : allOk E l = true) :
    x.all plainF = true ∧ plainF v = true ∧ ∃ s, E x = some (v, s) := by
  obtain ⟨a, ha, he⟩ := findT_mem h
  have hv := allOk_mem hok ha
  obtain ⟨e1, hp⟩ := eqL_plain he
  rw [e1] at hv
  obtain ⟨s, hw, hq⟩ := isV_spec hv
  exact ⟨hp, hq, s, hw⟩

/-- A call with plain arguments that is known: some machine that is right comes to this answer, with nothing in memory. -/
def Known (f : FuncId) (x : List Value) (v : Value) : Prop :=
  x.all plainF = true ∧ plainF v = true ∧ ∃ cf : CallF (Tri ABlk), CfOk Tryz.prog cf ∧ ∃ s, cf f x none2 = some (v, s)

theorem tab_step {cf : CallF (Tri ABlk)} (hcf : CfOk Tryz.prog cf) {f : FuncId} {x : List Value} {v : Value} (k : FuncId) (t : List (List Value × Value)) (r : Option Value) (hok : allOk (fun x => cf k x none2) t = true)
    (hh : (bif Nat.beq f k then findT t x else r) = some v) : Known f x v ∨ r = some v := by
  cases hb : Nat.beq f k with
  | true =>
    rw [hb] at hh
    obtain rfl := Nat.eq_of_beq_eq_true hb
    obtain ⟨a, b, c⟩ := findT_spec hh hok
    exact .inl ⟨a, b, cf, hcf, c⟩
  | false => rw [hb] at hh; exact .inr hh

theorem ev_cf : CfOk (H := Tri ABlk) Tryz.prog (evCall (Tri Value) (fnsOf Tryz.prog) 100000) := evCall_sound ext mixed (fnsOf_ok Tryz.prog) 100000

theorem orcV_spec {f : FuncId} {x : List Value} {v : Value} (h : orcV f x = some v) : Known f x v := by
  unfold orcV at h
  rcases tab_step ev_cf _ _ _ tab71_ok h with h | h
  · exact h
  rcases tab_step ev_cf _ _ _ tab36_ok h with h | h
  · exact h
  rcases tab_step ev_cf _ _ _ tab52_ok h with h | h
  · exact h
  rcases tab_step ev_cf _ _ _ tab70_ok h with h | h
  · exact h
  rcases tab_step ev_cf _ _ _ tab138_ok h with h | h
  · exact h
  rcases tab_step ev_cf _ _ _ tab38_ok h with h | h
  · exact h
  cases h

theorem plainF_VR {ρ ρ' : Rho} {v v' : Value} (h : VR ρ v v') (hp : plainF v = true) : VR ρ' v v' := by
  unfold plainF at hp
  split at hp
  · cases h; exact .int _ _
  · cases h; exact .float (by assumption)
  · cases h; exact .complex (by assumption) (by assumption)
  · cases h with
    | agg hl h =>
      refine .agg hl fun i u u' hu hu' => ?_
      have h1 := h i u u' hu hu'
      match i, hu with
      | 0, hu => cases hu; cases h1; exact .float (by assumption)
      | 1, hu => cases hu; cases h1; exact .float (by assumption)
  · cases hp

theorem plainF_VL {ρ ρ' : Rho} {vs vs' : List Value} (h : VL ρ vs vs') (hp : vs.all plainF = true) : VL ρ' vs vs' :=
  ⟨h.1, fun i v v' hv hv' => plainF_VR (h.2 i v v' hv hv') (List.all_eq_true.1 hp v (List.mem_of_getElem? hv))⟩

theorem rep_none2 (w : World) : Rep (fun _ => none) none2 w :=
  ⟨fun _ _ hB => (nomatch hB), fun _ _ _ _ hB => absurd hB (by rintro ⟨k, hk, _⟩; cases hk), fun _ _ => rfl, fun _ _ hB => (nomatch hB)⟩

theorem orcOf_ok {V : FuncId → List Value → Option Value} (hV : ∀ f x v, V f x = some v → Known f x v) :
    OrcOk (H := Tri ABlk) Tryz.prog (fun f args s => match V f args with | some v => some (v, s) | none => none) := by
  intro f args s v s' he ρ W args' hargs hR
  dsimp only at he
  split at he
  · rename_i u hu
    cases he
    obtain ⟨hp, hq, cf, hcf, s1, hs⟩ := hV _ _ _ hu
    obtain ⟨hfn, hcall⟩ := hcf f args none2 v s1 hs (fun _ => none) W args' (plainF_VL hargs hp) (rep_none2 W)
    refine ⟨hfn, hcall.mono fun e W' hh => ?_⟩
    obtain ⟨ρ1, v', rfl, g1, g2, g3⟩ := hh
    obtain ⟨k1, k2⟩ := hR.below (g3.below fun _ => (by rintro ⟨k, hk, _⟩; cases hk))
    exact ⟨ρ, v', rfl, plainF_VR g1 hq, k1, k2⟩
  · cases he

theorem orcT_ok : OrcOk Tryz.prog orcT := orcOf_ok fun _ _ _ h => orcV_spec h

def endsTrue2 : Option (Value × KS) → Bool
  | some (.bool b, _) => b
  | _ => false

theorem wakes_runs : endsTrue2 (evXK orcT fnsL 100000 7 [] none2) = true := by kernel_rfl

theorem endsTrue2_iff {r : Option (Value × KS)} (h : endsTrue2 r = true) : ∃ s', r = some (.bool true, s') := by
  unfold endsTrue2 at h
  split at h
  · subst h; exact ⟨_, rfl⟩
  · cases h

theorem call_of_run {n : Nat} {f : FuncId} (h : ∃ s', evXK orcT fnsL n f [] none2 = some (.bool true, s')) (W : World) :
    Calls Tryz.prog f #[] W fun e W' => e = .returned (.bool true) ∧ RowKit.Below W.heap.size W W' := by
  obtain ⟨s', hs⟩ := h
  have hs2 : evX TF orcT fnsL n f [] none2 = some (.bool true, s') := (congrFun (congrFun (congrFun (evXK_eq orcT fnsL n) f) []) none2).symm.trans hs
  obtain ⟨_, hc⟩ := evX_sound ext mixed fnsL_ok orcT_ok n f [] none2 (.bool true) s' hs2 (fun _ => none) W [] (.nil _) (rep_none2 W)
  refine hc.mono fun e w' he => ?_
  obtain ⟨ρ', v', rfl, h1, _, h3⟩ := he
  cases h1
  exact ⟨rfl, h3.below fun _ => (by rintro ⟨k, hk, _⟩; cases hk)⟩

/-- WAKES ANSWERS TRUE. -/
theorem wakes_call (W : World) : Calls Tryz.prog 7 #[] W fun e W' => e = .returned (.bool true) ∧ RowKit.Below W.heap.size W W' :=
  call_of_run (endsTrue2_iff wakes_runs) W

end Go.Proofs.YtmfaodenkghmkaaGreat
