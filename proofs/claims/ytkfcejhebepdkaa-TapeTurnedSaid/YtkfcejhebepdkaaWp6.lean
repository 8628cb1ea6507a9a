/- What is handed in, as lists; a law's call with what is known of memory. -/
import Derived.Test.YtkfcejhebepdkaaWp5
import Derived.ChangeSame
namespace Go.Vam
open Go Go.ChangeShapes

section
variable {P : Program} {T : Type} {s : Mm}

def Lt (s : Mm) : Prop := ∀ B k, Store.get s.h B = some k → B < s.nxt

theorem Abs.sl (hs : Lt s) {t e : TypeId} {sz : Nat} (ht : P.underlying t = some (.slice e)) (hsz : P.cellsOf e = sz) {cs : List Value} {d : DataW T} (h : Abs P s t cs d) :
    ∃ (v : Value) (ls : List (List Value)) (ds : List (DataW T)), cs = [v] ∧ SlC s sz v ls.length ls.flatten ∧ ls.length ≤ maxLen ∧ ds.length = ls.length ∧
      (∀ (i : Nat) (l : List Value) (d : DataW T), ls[i]? = some l → ds[i]? = some d → l.length = sz ∧ Abs P s e l d) := by
  have hO : maxLen < OPEN := by decide
  cases h with
  | nil h => exact ⟨_, [], [], rfl, .nil, Nat.zero_le _, rfl, fun i l d hl => by simp at hl⟩
  | @slice _ e' B cap ls ds rest h hg hsz' hlen hcap hel =>
    rw [ht] at h; cases h
    have hlf : ls.flatten.length = ls.length * sz := by
      have : ∀ ls : List (List Value), (∀ l ∈ ls, l.length = P.cellsOf e) → ls.flatten.length = ls.length * sz := by
        intro ls
        induction ls with
        | nil => intro _; simp
        | cons l ls ih => intro h; simp only [List.flatten_cons, List.length_append, List.length_cons, ih (fun x hx => h x (by simp [hx])), h l (by simp), hsz, Nat.add_mul]; omega
      exact this ls hsz'
    refine ⟨_, ls, ds, rfl, .mk (blk_ro hg) (hs _ _ hg) (by rw [List.drop_zero, ← hlf, List.take_length]) (by omega) ?_, ?_, hlen, fun i l d hl hd => ⟨by rw [← hsz]; exact hsz' l (List.mem_of_getElem? hl), hel i l d hl hd⟩⟩
    · rcases hcap with ⟨h1, h2⟩ | ⟨h1, h2⟩
      · exact .inl ⟨h1, by omega⟩
      · right; rw [h2, hsz]
    · rcases hcap with ⟨h1, h2⟩ | ⟨h1, h2⟩
      · omega
      · subst h1; exact Nat.zero_le _
  | bool h => rw [ht] at h; cases h
  | int h => rw [ht] at h; cases h
  | float h => rw [ht] at h; cases h
  | string h => rw [ht] at h; cases h
  | struct h => rw [ht] at h; cases h
  | array h => rw [ht] at h; cases h

theorem Abs.i {t : TypeId} {k : IntKind} (ht : P.underlying t = some (.int k)) {cs : List Value} {d : DataW T} (h : Abs P s t cs d) : ∃ n, cs = [.int k n] ∧ d = .lit (.int k n) ∧ (Lit.int k n).wf = true := by
  cases h with
  | int h hw => rw [ht] at h; cases h; exact ⟨_, rfl, rfl, hw⟩
  | nil h => rw [ht] at h; cases h
  | slice h => rw [ht] at h; cases h
  | bool h => rw [ht] at h; cases h
  | float h => rw [ht] at h; cases h
  | string h => rw [ht] at h; cases h
  | struct h => rw [ht] at h; cases h
  | array h => rw [ht] at h; cases h

theorem Abs.f {t : TypeId} {k : FloatKind} (ht : P.underlying t = some (.float k)) {cs : List Value} {d : DataW T} (h : Abs P s t cs d) : ∃ n, cs = [.float k n] ∧ d = .lit (.float k n) ∧ (Lit.float k n).wf = true := by
  cases h with
  | float h hw => rw [ht] at h; cases h; exact ⟨_, rfl, rfl, hw⟩
  | nil h => rw [ht] at h; cases h
  | slice h => rw [ht] at h; cases h
  | bool h => rw [ht] at h; cases h
  | int h => rw [ht] at h; cases h
  | string h => rw [ht] at h; cases h
  | struct h => rw [ht] at h; cases h
  | array h => rw [ht] at h; cases h

theorem Abs.b {t : TypeId} (ht : P.underlying t = some .bool) {cs : List Value} {d : DataW T} (h : Abs P s t cs d) : ∃ n, cs = [.bool n] ∧ d = .lit (.bool n) := by
  cases h with
  | bool h => exact ⟨_, rfl, rfl⟩
  | float h => rw [ht] at h; cases h
  | nil h => rw [ht] at h; cases h
  | slice h => rw [ht] at h; cases h
  | int h => rw [ht] at h; cases h
  | string h => rw [ht] at h; cases h
  | struct h => rw [ht] at h; cases h
  | array h => rw [ht] at h; cases h

theorem Abs.st {t : TypeId} {fs : Array Field} (ht : P.underlying t = some (.struct fs)) {cs : List Value} {d : DataW T} (h : Abs P s t cs d) :
    ∃ ds, d = .agg ds ∧ cs.length = P.cellsOf t ∧ ds.length = fs.toList.length ∧ ∀ (i : Nat) (f : Field) (d : DataW T), fs.toList[i]? = some f → ds[i]? = some d → Abs P s f.type ((cs.drop f.offset).take (P.cellsOf f.type)) d := by
  cases h with
  | struct h hsz hlen hel => rw [ht] at h; cases h; exact ⟨_, rfl, hsz, hlen, hel⟩
  | float h => rw [ht] at h; cases h
  | nil h => rw [ht] at h; cases h
  | slice h => rw [ht] at h; cases h
  | int h => rw [ht] at h; cases h
  | string h => rw [ht] at h; cases h
  | bool h => rw [ht] at h; cases h
  | array h => rw [ht] at h; cases h

/-- Elements that are each one cell of a kind. -/
theorem ones_of {α β : Type} {f : α → Value} {p : α → Prop} : ∀ (ls : List (List Value)) (ds : List β), ds.length = ls.length → (∀ (i : Nat) (l : List Value) (d : β), ls[i]? = some l → ds[i]? = some d → ∃ x, l = [f x] ∧ p x) → ∃ xs : List α, ls = xs.map (fun x => [f x]) ∧ ∀ x ∈ xs, p x := by
  intro ls
  induction ls with
  | nil => intro ds _ _; exact ⟨[], rfl, by simp⟩
  | cons l ls ih =>
    intro ds hd h
    cases ds with
    | nil => simp at hd
    | cons d ds =>
      obtain ⟨x, h1, h2⟩ := h 0 l d rfl rfl
      obtain ⟨xs, h3, h4⟩ := ih ds (by simpa using hd) (fun i l d hl hdd => h (i + 1) l d (by simpa using hl) (by simpa using hdd))
      exact ⟨x :: xs, by rw [h1, h3]; rfl, fun y hy => by
        rcases List.mem_cons.1 hy with rfl | hy
        · exact h2
        · exact h4 y hy⟩

theorem flat_ones {α : Type} {f : α → Value} (xs : List α) : (xs.map (fun x => [f x])).flatten = xs.map f := by
  induction xs with
  | nil => rfl
  | cons x xs ih => simp only [List.map_cons, List.flatten_cons, ih]; rfl

/-- A list of numbers that is handed in. -/
theorem Abs.ints (hs : Lt s) {t e : TypeId} {k : IntKind} (ht : P.underlying t = some (.slice e)) (he : P.underlying e = some (.int k)) (hsz : P.cellsOf e = 1) {cs : List Value} {d : DataW T} (h : Abs P s t cs d) :
    ∃ (v : Value) (xs : List Int), cs = [v] ∧ SlC s 1 v xs.length (xs.map (.int k)) ∧ xs.length ≤ maxLen ∧ ∀ x ∈ xs, (Lit.int k x).wf = true := by
  obtain ⟨v, ls, ds, h1, h2, h3, h4, h5⟩ := h.sl hs ht hsz
  obtain ⟨xs, h6, h7⟩ := ones_of (f := .int k) (p := fun x => (Lit.int k x).wf = true) ls ds h4 (fun i l d hl hd => by
    obtain ⟨n, g1, _, g2⟩ := (h5 i l d hl hd).2.i he
    exact ⟨n, g1, g2⟩)
  subst h6
  rw [flat_ones, List.length_map] at h2
  rw [List.length_map] at h3
  exact ⟨v, xs, h1, h2, h3, h7⟩

theorem Abs.floats (hs : Lt s) {t e : TypeId} {k : FloatKind} (ht : P.underlying t = some (.slice e)) (he : P.underlying e = some (.float k)) (hsz : P.cellsOf e = 1) {cs : List Value} {d : DataW T} (h : Abs P s t cs d) :
    ∃ (v : Value) (xs : List Nat), cs = [v] ∧ SlC s 1 v xs.length (xs.map (.float k)) ∧ xs.length ≤ maxLen ∧ ∀ x ∈ xs, (Lit.float k x).wf = true := by
  obtain ⟨v, ls, ds, h1, h2, h3, h4, h5⟩ := h.sl hs ht hsz
  obtain ⟨xs, h6, h7⟩ := ones_of (f := .float k) (p := fun x => (Lit.float k x).wf = true) ls ds h4 (fun i l d hl hd => by
    obtain ⟨n, g1, _, g2⟩ := (h5 i l d hl hd).2.f he
    exact ⟨n, g1, g2⟩)
  subst h6
  rw [flat_ones, List.length_map] at h2
  rw [List.length_map] at h3
  exact ⟨v, xs, h1, h2, h3, h7⟩

theorem Abs.bools (hs : Lt s) {t e : TypeId} (ht : P.underlying t = some (.slice e)) (he : P.underlying e = some .bool) (hsz : P.cellsOf e = 1) {cs : List Value} {d : DataW T} (h : Abs P s t cs d) :
    ∃ (v : Value) (xs : List Bool), cs = [v] ∧ SlC s 1 v xs.length (xs.map .bool) ∧ xs.length ≤ maxLen := by
  obtain ⟨v, ls, ds, h1, h2, h3, h4, h5⟩ := h.sl hs ht hsz
  obtain ⟨xs, h6, _⟩ := ones_of (f := Value.bool) (p := fun _ => True) ls ds h4 (fun i l d hl hd => by
    obtain ⟨n, g1, _⟩ := (h5 i l d hl hd).2.b he
    exact ⟨n, g1, trivial⟩)
  subst h6
  rw [flat_ones, List.length_map] at h2
  rw [List.length_map] at h3
  exact ⟨v, xs, h1, h2, h3⟩

/-- A table of numbers that is handed in. -/
theorem Abs.tab (hs : Lt s) {t t' e : TypeId} {k : IntKind} (ht : P.underlying t = some (.slice t')) (ht' : P.underlying t' = some (.slice e)) (he : P.underlying e = some (.int k)) (hsz' : P.cellsOf t' = 1) (hsz : P.cellsOf e = 1) {cs : List Value} {d : DataW T} (h : Abs P s t cs d) :
    ∃ (v : Value) (rows : List (List Int)) (cells : List Value), cs = [v] ∧ SlC s 1 v rows.length cells ∧ rows.length ≤ maxLen ∧ (∀ (i : Nat) (r : List Int), rows[i]? = some r → (∃ c, cells[i]? = some c ∧ SlC s 1 c r.length (r.map (.int k))) ∧ r.length ≤ maxLen ∧ ∀ x ∈ r, (Lit.int k x).wf = true) := by
  obtain ⟨v, ls, ds, h1, h2, h3, h4, h5⟩ := h.sl hs ht hsz'
  have key : ∀ (ls : List (List Value)) (ds : List (DataW T)), ds.length = ls.length → (∀ (i : Nat) (l : List Value) (d : DataW T), ls[i]? = some l → ds[i]? = some d → Abs P s t' l d) →
      ∃ (rows : List (List Int)) (cells : List Value), ls.flatten = cells ∧ ls.length = rows.length ∧ (∀ (i : Nat) (r : List Int), rows[i]? = some r → (∃ c, cells[i]? = some c ∧ SlC s 1 c r.length (r.map (.int k))) ∧ r.length ≤ maxLen ∧ ∀ x ∈ r, (Lit.int k x).wf = true) := by
    intro ls
    induction ls with
    | nil => intro ds _ _; exact ⟨[], [], rfl, rfl, fun i r h => by simp at h⟩
    | cons l ls ih =>
      intro ds hd h
      cases ds with
      | nil => simp at hd
      | cons d ds =>
        obtain ⟨c, xs, g1, g2, g3, g4⟩ := (h 0 l d rfl rfl).ints hs ht' he hsz
        obtain ⟨rows, cells, g5, g6, g7⟩ := ih ds (by simpa using hd) (fun i l d hl hdd => h (i + 1) l d (by simpa using hl) (by simpa using hdd))
        refine ⟨xs :: rows, c :: cells, by rw [g1, List.flatten_cons, g5]; rfl, by simp [g6], fun i r hr => ?_⟩
        cases i with
        | zero => simp at hr; subst hr; exact ⟨⟨c, rfl, g2⟩, g3, g4⟩
        | succ i => exact g7 i r (by simpa using hr)
  obtain ⟨rows, cells, g1, g2, g3⟩ := key ls ds h4 (fun i l d hl hd => (h5 i l d hl hd).2)
  rw [g1, g2] at h2
  rw [g2] at h3
  exact ⟨v, rows, cells, h1, h2, h3, g3⟩

end

section
variable {P : Program} {w : World} {T : Type} {enc : TypeId × Value → T} {base : Nat} {held : Bool}

/-- A LAW's CALL. -/
theorem law_calls (hX : ExtOk P) (hm : P.follows .mixedOrders = true) {orc : FuncId → List Value → Option Value} (ho : OrcOk P orc) {f : FuncId} {r : Reach} {b0 k : Nat} {ts : List TypeId} {vs : List Value} {ds : List (DataW T)} {p : List MemPlace}
    (h : DataW.TrodAll enc P w base (fun _ => true) held ts vs ds p) (hk : ∀ t ∈ ts, plainT P k t = true) (hval : ∀ (j : Nat) (t : TypeId) (v : Value), ts[j]? = some t → vs[j]? = some v → Value.okWide P w r b0 t v)
    (hrun : ∀ (s : Mm) (avs : List Value), RoAll s → Lt s → AbsL P s ts avs ds → CallP ⟨orc, fnsOf P⟩ f avs s (fun v _ => v = .bool true)) :
    Calls P f vs.toArray w fun e w' => e = .returned (.bool true) ∧ RowKit.Below w.heap.size w w' := by
  have hR0 : Rep (fun _ => none) noBlk w := ⟨fun _ _ hB => (nomatch hB), fun _ _ _ _ hB => absurd hB (by rintro ⟨k, hk, _⟩; cases hk), fun _ _ => rfl, fun _ _ hB => (nomatch hB)⟩
  obtain ⟨ρ, s, avs, _, hR, hro, hvl, hab⟩ := args_place ts vs ds p h hk hval (fun _ => none) noBlk hR0 (fun _ _ hB => (nomatch hB))
  have hlt : Lt s := fun B k hB => by
    obtain ⟨L, h1, _⟩ := hR.blk B k hB
    rcases Nat.lt_or_ge B s.nxt with h | h
    · exact h
    · rw [hR.fresh B h] at h1; cases h1
  obtain ⟨_, s', ⟨n, hev⟩, rfl⟩ := hrun s avs hro hlt hab
  obtain ⟨_, hc⟩ := evX_sound hX hm (fnsOf_ok P) ho n f avs s (.bool true) s' hev ρ w vs hvl hR
  refine hc.mono fun e w' he => ?_
  obtain ⟨ρ', v', rfl, h1, _, h3⟩ := he
  cases h1
  exact ⟨rfl, h3.below fun B ⟨k, hk, hkr⟩ => by rw [hro B k hk] at hkr; cases hkr⟩

end

variable {s : Mm}

/-- A store to a cell of a slice of one's own. -/
theorem Own.store {sz n k : Nat} {v x : Value} {cs : List Value} (h : Own s sz v n cs) (hk : k < cs.length) (hx : oneCell x = true) :
    ∃ s', storeV s 1 (elP v k) x = some (undefV, s') ∧ Own s' sz v n (cs.set k x) ∧ Same s s' (footV v) := by
  cases h with
  | nil => simp at hk
  | @opn B n cs hg hB hl =>
    refine ⟨setBlk s B (.cells (cs.set k x) true), ?_, ?_, .set rfl⟩
    · simp only [elP, add_none', Nat.zero_add]
      exact store_g hg hx hk
    · exact .opn (by rw [get_set, if_pos rfl]) hB (by simpa using hl)
  | @cap B n c cs rest hg hB hl hr hn hc =>
    refine ⟨setBlk s B (.cells (cs.set k x ++ rest) false), ?_, ?_, .set rfl⟩
    · simp only [elP, add_none', Nat.zero_add]
      rw [store_g hg hx (by simp; omega), List.set_append_left _ _ hk]
    · exact .cap (by rw [get_set, if_pos rfl]) hB (by simpa using hl) hr hn hc

end Go.Vam
