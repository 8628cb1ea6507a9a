/- A law's call: from abstract runs to the call. -/
import Derived.Test.YtpphomoijlilfaaVam31
namespace Go.Vam
open Go Go.ChangeShapes

section
variable {P : Program} {w : World} {H T : Type} [Store H ABlk] {enc : TypeId × Value → T} {base : Nat} {held : Bool}

/-- Arguments that read as so much. -/
def AbsL (P : Program) (s : AS H) : List TypeId → List Value → List (DataW T) → Prop
  | [], [], [] => True
  | t :: ts, v :: vs, d :: ds => AbsV P s t v d ∧ AbsL P s ts vs ds
  | _, _, _ => False

theorem args_place {r : Reach} {b0 k : Nat} : ∀ (ts : List TypeId) (vs : List Value) (ds : List (DataW T)) (p : List MemPlace), DataW.TrodAll enc P w base (fun _ => true) held ts vs ds p → (∀ t ∈ ts, plainT P k t = true) →
    (∀ (j : Nat) (t : TypeId) (v : Value), ts[j]? = some t → vs[j]? = some v → Value.okWide P w r b0 t v) → ∀ (ρ : Rho) (s : AS H), Rep ρ s w → RoAll s →
    ∃ (ρ' : Rho) (s' : AS H) (avs : List Value), More ρ s ρ' s' ∧ Rep ρ' s' w ∧ RoAll s' ∧ VL ρ' avs vs ∧ AbsL P s' ts avs ds := by
  intro ts
  induction ts with
  | nil =>
    intro vs ds p h _ _ ρ s hR hro
    obtain ⟨rfl, rfl, rfl⟩ := trodAll_nil h
    exact ⟨ρ, s, [], .refl _ _, hR, hro, .nil _, trivial⟩
  | cons t ts ih =>
    intro vs ds p h hk hval ρ s hR hro
    obtain ⟨v, vs1, d, ds1, a, b, rfl, rfl, rfl, h1, h2⟩ := trodAll_cons h
    -- the others first, so that what is told of this one stays
    obtain ⟨ρ1, s1, avs, m1, R1, ro1, vl1, ab1⟩ := ih vs1 ds1 b h2 (fun x hx => hk x (List.mem_cons_of_mem _ hx)) (fun j x u hx hu => hval (j + 1) x u (by simpa using hx) (by simpa using hu)) ρ s hR hro
    obtain ⟨ρ2, s2, av, m2, R2, ro2, vr, ab⟩ := arg_place (H := H) (hk t (List.mem_cons_self ..)) (hval 0 t v rfl rfl) h1 ρ1 s1 R1 ro1
    have mono : ∀ (ts : List TypeId) (vs : List Value) (ds : List (DataW T)), AbsL P s1 ts vs ds → AbsL P s2 ts vs ds := by
      intro ts
      induction ts with
      | nil => intro vs ds h; cases vs <;> cases ds <;> first | trivial | exact h.elim
      | cons t ts ih =>
        intro vs ds h
        cases vs with
        | nil => exact h.elim
        | cons v vs => cases ds with
          | nil => exact h.elim
          | cons d ds => exact ⟨h.1.mono m2.old, ih vs ds h.2⟩
    exact ⟨ρ2, s2, av :: avs, m1.trans m2, R2, ro2, .cons vr (vl1.mono m2.sub), ab, mono _ _ _ ab1⟩

/-- The memory of no block. -/
def noBlk : AS (FunS ABlk) := ⟨⟨fun _ => none⟩, 0⟩

/-- A LAW's CALL: if the abstract run answers true for every reading, the call does. -/
theorem law_call (hX : ExtOk P) (hm : P.follows .mixedOrders = true) {orc : FuncId → List Value → Option Value} (ho : OrcOk P orc) {f : FuncId} {r : Reach} {b0 k : Nat} {ts : List TypeId} {vs : List Value} {ds : List (DataW T)} {p : List MemPlace}
    (h : DataW.TrodAll enc P w base (fun _ => true) held ts vs ds p) (hk : ∀ t ∈ ts, plainT P k t = true) (hval : ∀ (j : Nat) (t : TypeId) (v : Value), ts[j]? = some t → vs[j]? = some v → Value.okWide P w r b0 t v)
    (hrun : ∀ (s : AS (FunS ABlk)) (avs : List Value), RoAll s → AbsL P s ts avs ds → ∃ n s', evX (FunS Value) orc (fnsOf P) n f avs s = some (.bool true, s')) :
    Calls P f vs.toArray w fun e w' => e = .returned (.bool true) ∧ RowKit.Below w.heap.size w w' := by
  have hR0 : Rep (fun _ => none) noBlk w := ⟨fun _ _ hB => (nomatch hB), fun _ _ _ _ hB => absurd hB (by rintro ⟨k, hk, _⟩; cases hk), fun _ _ => rfl, fun _ _ hB => (nomatch hB)⟩
  obtain ⟨ρ, s, avs, _, hR, hro, hvl, hab⟩ := args_place ts vs ds p h hk hval (fun _ => none) noBlk hR0 (fun _ _ hB => (nomatch hB))
  obtain ⟨n, s', hev⟩ := hrun s avs hro hab
  obtain ⟨_, hc⟩ := evX_sound hX hm (fnsOf_ok P) ho n f avs s (.bool true) s' hev ρ w vs hvl hR
  refine hc.mono fun e w' he => ?_
  obtain ⟨ρ', v', rfl, h1, _, h3⟩ := he
  cases h1
  exact ⟨rfl, h3.below fun B ⟨k, hk, hkr⟩ => by rw [hro B k hk] at hkr; cases hkr⟩

end
end Go.Vam
