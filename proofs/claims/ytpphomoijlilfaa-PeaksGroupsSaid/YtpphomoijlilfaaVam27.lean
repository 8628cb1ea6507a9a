/- What is handed in: blocks that may only be read, and values that name them. -/
import Derived.Test.YtpphomoijlilfaaVam26
namespace Go.Vam
open Go
section
variable {P : Program} {H T : Type} [Store H ABlk]
inductive Abs (P : Program) (s : AS H) : TypeId → List Value → DataW T → Prop
  | bool {t : TypeId} {b : Bool} (h : P.underlying t = some .bool) : Abs P s t [.bool b] (.lit (.bool b))
  | int {t : TypeId} {k : IntKind} {n : Int} (h : P.underlying t = some (.int k)) (hw : (Lit.int k n).wf = true) : Abs P s t [.int k n] (.lit (.int k n))
  | float {t : TypeId} {k : FloatKind} {b : Nat} (h : P.underlying t = some (.float k)) (hw : (Lit.float k b).wf = true) : Abs P s t [.float k b] (.lit (.float k b))
  | string {t : TypeId} {b : ByteArray} (h : P.underlying t = some .string) (hw : b.size ≤ maxLen) : Abs P s t [.string b] (.lit (.string b.data.toList))
  | nil {t e : TypeId} (h : P.underlying t = some (.slice e)) : Abs P s t [.slice none 0 0] .nil
  | slice {t e : TypeId} {B cap : Nat} {ls : List (List Value)} {ds rest : List (DataW T)} (h : P.underlying t = some (.slice e)) (hg : Store.get s.h B = some (.ro ls.flatten))
      (hsz : ∀ l ∈ ls, l.length = P.cellsOf e) (hlen : ds.length = ls.length) (hcap : (ls.length ≤ cap ∧ cap ≤ maxLen) ∨ (ls = [] ∧ cap = OPEN + P.cellsOf e))
      (hel : ∀ (i : Nat) (l : List Value) (d : DataW T), ls[i]? = some l → ds[i]? = some d → Abs P s e l d) : Abs P s t [.slice (some ⟨B, 0, none⟩) ls.length cap] (.slice ds rest)
  | struct {t : TypeId} {fs : Array Field} {cs : List Value} {ds : List (DataW T)} (h : P.underlying t = some (.struct fs)) (hsz : cs.length = P.cellsOf t) (hlen : ds.length = fs.toList.length)
      (hel : ∀ (i : Nat) (f : Field) (d : DataW T), fs.toList[i]? = some f → ds[i]? = some d → Abs P s f.type ((cs.drop f.offset).take (P.cellsOf f.type)) d) : Abs P s t cs (.agg ds)
  | array {t e : TypeId} {n : Nat} {cs : List Value} {ds : List (DataW T)} (h : P.underlying t = some (.array n e)) (hsz : cs.length = P.cellsOf t) (hlen : ds.length = n)
      (hel : ∀ (i : Nat) (d : DataW T), i < n → ds[i]? = some d → Abs P s e ((cs.drop (i * P.cellsOf e)).take (P.cellsOf e)) d) : Abs P s t cs (.agg ds)
structure More (ρ : Rho) (s : AS H) (ρ' : Rho) (s' : AS H) : Prop where
  sub : Sub ρ ρ'
  nxt : s.nxt ≤ s'.nxt
  old : ∀ B k, Store.get s.h B = some k → Store.get s'.h B = some k
theorem More.refl (ρ : Rho) (s : AS H) : More ρ s ρ s := ⟨.refl _, Nat.le_refl _, fun _ _ h => h⟩
theorem More.trans {ρ ρ₁ ρ₂ : Rho} {s s₁ s₂ : AS H} (h : More ρ s ρ₁ s₁) (g : More ρ₁ s₁ ρ₂ s₂) : More ρ s ρ₂ s₂ :=
  ⟨h.sub.trans g.sub, Nat.le_trans h.nxt g.nxt, fun B k x => g.old B k (h.old B k x)⟩
theorem Abs.mono {s s' : AS H} (hs : ∀ B k, Store.get s.h B = some k → Store.get s'.h B = some k) {t : TypeId} {cs : List Value} {d : DataW T} (h : Abs P s t cs d) : Abs P s' t cs d := by
  induction h with
  | bool h => exact .bool h
  | int h hw => exact .int h hw
  | float h hw => exact .float h hw
  | string h hw => exact .string h hw
  | nil h => exact .nil h
  | slice h hg hsz hlen hcap _ ih => exact .slice h (hs _ _ hg) hsz hlen hcap ih
  | struct h hsz hlen _ ih => exact .struct h hsz hlen ih
  | array h hsz hlen _ ih => exact .array h hsz hlen ih
def RoAll (s : AS H) : Prop := ∀ B k, Store.get s.h B = some k → k.rw = false
theorem Rep.roAt {ρ : Rho} {s : AS H} {w : World} (hR : Rep ρ s w) (hro : RoAll s) (L : Loc) (cs : List Value) (hlt : L.b < w.heap.size) (hb : BR (upd ρ s.nxt L) L w (.ro cs)) :
    Rep (upd ρ s.nxt L) (Vam.newAt s (.ro cs)) w ∧ RoAll (Vam.newAt s (.ro cs)) ∧ More ρ s (upd ρ s.nxt L) (Vam.newAt s (.ro cs)) := by
  have hf := hR.fresh s.nxt (Nat.le_refl _)
  have hsub := Sub.upd L hf
  have hget : ∀ x, Store.get (Vam.newAt s (ABlk.ro cs)).h x = if x = s.nxt then some (.ro cs) else Store.get s.h x := fun x => Store.get_put _ _ _ _
  have hro' : RoAll (Vam.newAt s (ABlk.ro cs)) := fun B k hk => by
    rw [hget] at hk
    split at hk
    · cases hk; rfl
    · exact hro B k hk
  have hnone : Store.get s.h s.nxt = none := by
    cases hg : Store.get s.h s.nxt with
    | none => rfl
    | some x => obtain ⟨L', x, _⟩ := hR.blk _ x hg; rw [hf] at x; cases x
  refine ⟨⟨fun B k hk => ?_, fun B B' _ _ hB => ?_, fun B hB => ?_, fun B L' hB => ?_⟩, hro', ⟨hsub, Nat.le_succ _, fun B k hk => ?_⟩⟩
  · rw [hget] at hk
    split at hk
    · rename_i e
      cases hk
      subst e
      exact ⟨L, by simp [upd], hb⟩
    · obtain ⟨L', x, y⟩ := hR.blk B k hk
      exact ⟨L', hsub _ _ x, y.mono hsub⟩
  · obtain ⟨k, hk, hkr⟩ := hB
    rw [hro' B k hk] at hkr; cases hkr
  · have hB' : s.nxt + 1 ≤ B := hB
    unfold upd
    rw [if_neg (by omega)]
    exact hR.fresh B (by omega)
  · unfold upd at hB
    split at hB
    · cases hB; exact hlt
    · exact hR.lt B L' hB
  · rw [hget, if_neg (fun e => by rw [e, hnone] at hk; cases hk)]
    exact hk
end
end Go.Vam
