/- What is handed in: every plain value has its place in abstract memory. -/
import Derived.Test.YtpphomoijlilfaaVam28
namespace Go.Vam
open Go
section
variable {P : Program} {w : World} {H T : Type} [Store H ABlk] {enc : TypeId × Value → T} {base : Nat} {held : Bool}
def tilesF (P : Program) : List Field → Nat → Nat → Bool
  | [], off, tot => off == tot
  | f :: fs, off, tot => f.offset == off && tilesF P fs (off + P.cellsOf f.type) tot
def plainT (P : Program) : Nat → TypeId → Bool
  | 0, _ => false
  | n + 1, t => match P.underlying t with
    | some .bool | some (.int _) | some (.float _) | some .string => true
    | some (.slice e) => decide (1 ≤ P.cellsOf e ∧ P.cellsOf e < OPEN) && plainT P n e
    | some (.struct fs) => tilesF P fs.toList 0 (P.cellsOf t) && fs.toList.all fun f => plainT P n f.type
    | some (.array m e) => decide (P.cellsOf t = m * P.cellsOf e) && plainT P n e
    | _ => false
def Place (P : Program) (w : World) (H : Type) [Store H ABlk] (t : TypeId) (cs : List Value) (d : DataW T) : Prop :=
  ∀ (ρ : Rho) (s : AS H), Rep ρ s w → RoAll s → ∃ (ρ' : Rho) (s' : AS H) (acs : List Value), More ρ s ρ' s' ∧ Rep ρ' s' w ∧ RoAll s' ∧ VL ρ' acs cs ∧ Abs P s' t acs d
structure Item (T : Type) where
  t : TypeId
  cs : List Value
  d : DataW T
theorem places : ∀ (its : List (Item T)), (∀ x ∈ its, Place P w H x.t x.cs x.d) → ∀ (ρ : Rho) (s : AS H), Rep ρ s w → RoAll s →
    ∃ (ρ' : Rho) (s' : AS H) (ls : List (List Value)), More ρ s ρ' s' ∧ Rep ρ' s' w ∧ RoAll s' ∧ ls.length = its.length ∧ (∀ (j : Nat) (l : List Value) (x : Item T), ls[j]? = some l → its[j]? = some x → VL ρ' l x.cs ∧ Abs P s' x.t l x.d) := by
  intro its
  induction its with
  | nil => intro _ ρ s hR hro; exact ⟨ρ, s, [], .refl _ _, hR, hro, rfl, fun j l x h => by simp at h⟩
  | cons x its ih =>
    intro h ρ s hR hro
    obtain ⟨ρ1, s1, acs, m1, R1, ro1, v1, a1⟩ := h x (List.mem_cons_self ..) ρ s hR hro
    obtain ⟨ρ2, s2, ls, m2, R2, ro2, hl, hx⟩ := ih (fun y hy => h y (List.mem_cons_of_mem _ hy)) ρ1 s1 R1 ro1
    refine ⟨ρ2, s2, acs :: ls, m1.trans m2, R2, ro2, by simp [hl], fun j l y hj hy => ?_⟩
    cases j with
    | zero => simp at hj hy; subst hj; subst hy; exact ⟨v1.mono m2.sub, a1.mono m2.old⟩
    | succ j => simp at hj hy; exact hx j l y hj hy
theorem VL.flat {ρ : Rho} : ∀ (ls ccs : List (List Value)), ls.length = ccs.length → (∀ (j : Nat) (l c : List Value), ls[j]? = some l → ccs[j]? = some c → VL ρ l c) → VL ρ ls.flatten ccs.flatten := by
  intro ls
  induction ls with
  | nil => intro ccs h _; cases ccs; exact .nil ρ; simp at h
  | cons l ls ih =>
    intro ccs h hv
    cases ccs with
    | nil => simp at h
    | cons c ccs =>
      simp only [List.flatten_cons]
      exact (hv 0 l c rfl rfl).append (ih ccs (by simpa using h) fun j a b x y => hv (j + 1) a b (by simpa using x) (by simpa using y))
theorem place_slice {t e : TypeId} {a : Addr} {len cap : Nat} {ys rest : List (DataW T)} (ht : P.underlying t = some (.slice e)) (hszz : 1 ≤ P.cellsOf e ∧ P.cellsOf e < OPEN) (hcap : len ≤ cap ∧ cap ≤ maxLen) (hw : ∃ (b : Nat) (c : Array Value) (el : TypeId) (fz : Nat × Nat), w.heap[b]? = some (.cells c el fz))
    (hlen : ys.length = len) (hel : ∀ (i : Nat) (d : DataW T), ys[i]? = some d → ∃ cs, w.cells? base (a.add (i * P.cellsOf e)) (P.cellsOf e) = some cs ∧ Place P w H e cs d)
    (hsp : 0 < cap → ∃ i cs, i < cap ∧ w.cells? base (a.add (i * P.cellsOf e)) (P.cellsOf e) = some cs ∧ (i = 0)) : Place P w H t [.slice (some a) len cap] (.slice ys rest) := by
  have hsz := hszz.1
  intro ρ s hR hro
  obtain ⟨css, hcss⟩ : ∃ css : List (List Value), css.length = len ∧ ∀ (i : Nat) (d : DataW T) (c : List Value), ys[i]? = some d → css[i]? = some c → w.cells? base (a.add (i * P.cellsOf e)) (P.cellsOf e) = some c ∧ Place P w H e c d := by
    have : ∀ n, n ≤ len → ∃ css : List (List Value), css.length = n ∧ ∀ (i : Nat) (d : DataW T) (c : List Value), ys[i]? = some d → css[i]? = some c → w.cells? base (a.add (i * P.cellsOf e)) (P.cellsOf e) = some c ∧ Place P w H e c d := by
      intro n
      induction n with
      | zero => intro _; exact ⟨[], rfl, fun i d c _ h => by simp at h⟩
      | succ n ih =>
        intro hn
        obtain ⟨css, h1, h2⟩ := ih (by omega)
        obtain ⟨c, h3, h4⟩ := hel n ys[n] (List.getElem?_eq_getElem (by omega))
        refine ⟨css ++ [c], by simp [h1], fun i d c' hd hc => ?_⟩
        rcases Nat.lt_or_ge i n with x | x
        · rw [List.getElem?_append_left (by omega)] at hc
          exact h2 i d c' hd hc
        · rw [List.getElem?_append_right (by omega), h1] at hc
          have : i = n := by
            have := (List.getElem?_eq_some_iff.1 hc).1
            simp at this; omega
          subst this
          simp at hc; subst hc
          rw [List.getElem?_eq_getElem (by omega)] at hd
          cases hd
          exact ⟨h3, h4⟩
    exact this len (Nat.le_refl _)
  obtain ⟨hcl, hcs⟩ := hcss
  obtain ⟨ρ1, s1, ls, m1, R1, ro1, hll, hx⟩ := places (P := P) (w := w) ((List.range len).map fun i => (⟨e, css.getD i [], ys.getD i .nil⟩ : Item T)) (fun x hx => by
    obtain ⟨i, hi, rfl⟩ := List.mem_map.1 hx
    simp at hi
    have h1 : ys[i]? = some (ys.getD i .nil) := by simp [hlen, hi]
    have h2 : css[i]? = some (css.getD i []) := by simp [hcl, hi]
    exact (hcs i _ _ h1 h2).2) ρ s hR hro
  simp at hll
  have hit : ∀ i, i < len → ((List.range len).map fun i => (⟨e, css.getD i [], ys.getD i .nil⟩ : Item T))[i]? = some ⟨e, css.getD i [], ys.getD i .nil⟩ := fun i hi => by simp [hi]
  have hvl : VL ρ1 ls.flatten css.flatten := VL.flat ls css (by omega) fun j l c h1 h2 => by
    have hj : j < len := by have := (List.getElem?_eq_some_iff.1 h1).1; omega
    have := (hx j l _ h1 (hit j hj)).1
    simp only at this
    rw [List.getD_eq_getElem?_getD, h2] at this
    exact this
  have hlsz : ∀ l ∈ ls, l.length = P.cellsOf e := fun l hl => by
    obtain ⟨j, hj⟩ := List.mem_iff_getElem?.1 hl
    have hjl : j < len := by have := (List.getElem?_eq_some_iff.1 hj).1; omega
    have h1 := (hx j l _ hj (hit j hjl)).1.1
    simp only at h1
    have h2 : css[j]? = some (css.getD j []) := by simp [hcl, hjl]
    have h3 := (hcs j ys[j] _ (List.getElem?_eq_getElem (by omega)) h2).1
    have h4 := (cells_read hsz h3).2
    obtain ⟨c, _, _, _, h5, h6⟩ := h4
    rw [h1, h6]; simp; omega
  have habs : ∀ s2 : AS H, (∀ B k, Store.get s1.h B = some k → Store.get s2.h B = some k) → ∀ (i : Nat) (l : List Value) (d : DataW T), ls[i]? = some l → ys[i]? = some d → Abs P s2 e l d := fun s2 hs i l d h1 h2 => by
    have hj : i < len := by have := (List.getElem?_eq_some_iff.1 h1).1; omega
    have := (hx i l _ h1 (hit i hj)).2
    simp only [List.getD_eq_getElem?_getD, h2, Option.getD_some] at this
    exact this.mono hs
  by_cases h0 : cap = 0
  ·
    have hl0 : len = 0 := by omega
    subst hl0
    obtain rfl : ls = [] := by cases ls; rfl; simp at hll
    obtain ⟨b, c, el, fz, hb⟩ := hw
    let L : Loc := ⟨b, 0, 0, P.cellsOf e, (0, 0), e⟩
    obtain ⟨R2, ro2, m2⟩ := R1.roAt ro1 L [] (by have := (Array.getElem?_eq_some_iff.1 hb).1; exact this) ⟨c, el, fz, hb, by simp [L], fun i v h => by simp at h⟩
    refine ⟨_, _, [.slice (some ⟨s1.nxt, 0, none⟩) 0 (OPEN + P.cellsOf e)], m1.trans m2, R2, ro2, .cons ?_ (.nil _), ?_⟩
    · subst h0
      exact VR.slOpen0 (L := L) (by simp [upd]) hszz.2
    · have := Abs.slice (P := P) (s := Vam.newAt s1 (ABlk.ro [])) (t := t) (e := e) (B := s1.nxt) (cap := OPEN + P.cellsOf e) (ls := []) (ds := ys) (rest := rest) ht (by simp [Vam.newAt, Store.get_put]) (by simp) (by simp [hlen]) (.inr ⟨rfl, rfl⟩) (fun i l d h => by simp at h)
      exact this
  · obtain ⟨i0, cs0, _, hr0, rfl⟩ := hsp (by omega)
    have hr0' := cells_read hsz hr0
    have ha0 : a.add (0 * P.cellsOf e) = a := by unfold Addr.add; simp
    rw [ha0] at hr0'
    obtain ⟨hspot, c, el, fz, hb, hsz0, _⟩ := hr0'
    obtain ⟨ab, ao, asp⟩ := a
    simp only at hspot hb hsz0
    subst hspot
    let L : Loc := ⟨ab, ao, 0, P.cellsOf e, (0, 0), e⟩
    have hrow : ∀ (j : Nat) (l : List Value), css[j]? = some l → l = (c.toList.drop (ao + j * P.cellsOf e)).take (P.cellsOf e) ∧ ao + (j + 1) * P.cellsOf e ≤ c.size := fun j l hj => by
      have hjl : j < len := by have := (List.getElem?_eq_some_iff.1 hj).1; omega
      have h3 := (hcs j ys[j] l (List.getElem?_eq_getElem (by omega)) hj).1
      rw [add_none'] at h3
      obtain ⟨_, c', el', fz', hb', h5, h6⟩ := cells_read hsz h3
      simp only at hb' h5 h6
      rw [hb] at hb'; cases hb'
      exact ⟨h6, by rw [Nat.add_mul, Nat.one_mul]; omega⟩
    have hflat : css.flatten = (c.toList.drop ao).take (css.length * P.cellsOf e) := by
      have := flatten_rows c.toList ao (P.cellsOf e) css 0 (fun j l hj => by rw [Nat.zero_add]; exact (hrow j l hj).1) (fun j hj => by rw [Nat.zero_add, Array.length_toList]; exact (hrow j _ (List.getElem?_eq_getElem hj)).2)
      simpa using this
    have hfit : ao + css.length * P.cellsOf e ≤ c.size := by
      cases hcn : css.length with
      | zero => simp; omega
      | succ m => exact (hrow m _ (List.getElem?_eq_getElem (by omega))).2
    have hll2 : ls.flatten.length = css.length * P.cellsOf e := by
      rw [hvl.1, hflat]; simp; omega
    obtain ⟨R2, ro2, m2⟩ := R1.roAt ro1 L ls.flatten (by have := (Array.getElem?_eq_some_iff.1 hb).1; exact this) ⟨c, el, fz, hb, by show ao + _ ≤ _; rw [hll2]; exact hfit, fun i v h => by
      obtain ⟨v', g1, g2⟩ := hvl.get h
      refine ⟨v', ?_, g2.mono (Sub.upd L (R1.fresh _ (Nat.le_refl _)))⟩
      rw [hflat, List.getElem?_take] at g1
      split at g1
      · rw [List.getElem?_drop, Array.getElem?_toList] at g1; exact g1
      · cases g1⟩
    refine ⟨_, _, [.slice (some ⟨s1.nxt, 0, none⟩) ls.length cap], m1.trans m2, R2, ro2, .cons ?_ (.nil _), ?_⟩
    · rw [hll]
      have := VR.sl (ρ := upd ρ1 s1.nxt L) (B := s1.nxt) (off := 0) (len := len) (cap := cap) (L := L) (by simp [upd]) (by have := hcap.2; simp only [maxLen, OPEN] at *; omega)
      simpa [L] using this
    · exact Abs.slice ht (by simp [Vam.newAt, Store.get_put]) hlsz (by omega) (.inl ⟨by omega, hcap.2⟩) (habs _ m2.old)
end
end Go.Vam
