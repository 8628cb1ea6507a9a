/- A law's call: from abstract runs to the call. -/
import Derived.Test.YtpphomoijlilfaaVam31
namespace Go.Vam
open Go Go.ChangeShapes
section
variable {P : Program} {w : World} {H T : Type} [Store H ABlk] {enc : TypeId × Value → T} {base : Nat} {held : Bool}
def AbsL (P : Program) (s : AS H) : List TypeId → List Value → List (DataW T) → Prop
  | [], [], [] => True
  | t :: ts, v :: vs, d :: ds => AbsV P s t v d ∧ AbsL P s ts vs ds
  | _, _, _ => False
theorem args_place {r : Reach} {b0 k : Nat} : ∀ (ts : List TypeId) (vs : List Value) (ds : List (DataW T)) (p : List MemPlace), DataW.TrodAll enc P w base (fun _ => true) held ts vs ds p → (∀ t ∈ ts, plainT P k t = true) →
    (∀ (j : Nat) (t : TypeId) (v : Value), ts[j]? = some t → vs[j]? = some v → Value.okWide P w r b0 t v) → ∀ (ρ : Rho) (s : AS H), Rep ρ s w → RoAll s →
    ∃ (ρ' : Rho) (s' : AS H) (avs : List Value), More ρ s ρ' s' ∧ Rep ρ' s' w ∧ RoAll s' ∧ VL ρ' avs vs ∧ AbsL P s' ts avs ds := by
  intro ts
  induction ts with
  | nil =>
    intro vs ds p h _ _ ρ s hR hro
    obtain ⟨rfl, rfl, rfl⟩ := trodAll_nil h
    exact ⟨ρ, s, [], .refl _ _, hR, hro, .nil _, trivial⟩
  | cons t ts ih =>
    intro vs ds p h hk hval ρ s hR hro
    obtain ⟨v, vs1, d, ds1, a, b, rfl, rfl, rfl, h1, h2⟩ := trodAll_cons h
    obtain ⟨ρ1, s1, avs, m1, R1, ro1, vl1, ab1⟩ := ih vs1 ds1 b h2 (fun x hx => hk x (List.mem_cons_of_mem _ hx)) (fun j x u hx hu => hval (j + 1) x u (by simpa using hx) (by simpa using hu)) ρ s hR hro
    obtain ⟨ρ2, s2, av, m2, R2, ro2, vr, ab⟩ := arg_place (H := H) (hk t (List.mem_cons_self ..)) (hval 0 t v rfl rfl) h1 ρ1 s1 R1 ro1
    have mono : ∀ (ts : List TypeId) (vs : List Value) (ds : List (DataW T)), AbsL P s1 ts vs ds → AbsL P s2 ts vs ds := by
      intro ts
      induction ts with
      | nil => intro vs ds h; cases vs <;> cases ds <;> first | trivial | exact h.elim
      | cons t ts ih =>
        intro vs ds h
        cases vs with
        | nil => exact h.elim
        | cons v vs => cases ds with
          | nil => exact h.elim
          | cons d ds => exact ⟨h.1.mono m2.old, ih vs ds h.2⟩
    exact ⟨ρ2, s2, av :: avs, m1.trans m2, R2, ro2, .cons vr (vl1.mono m2.sub), ab, mono _ _ _ ab1⟩
def noBlk : AS (FunS ABlk) := ⟨⟨fun _ => none⟩, 0⟩
end
end Go.Vam
