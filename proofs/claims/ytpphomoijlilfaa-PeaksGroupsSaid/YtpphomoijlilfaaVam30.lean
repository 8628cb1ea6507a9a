/- What is handed in: every plain value that the kit reads has its place. -/
import Derived.Test.YtpphomoijlilfaaVam29
namespace Go.Vam
open Go
section
variable {P : Program} {w : World} {H T : Type} [Store H ABlk] {enc : TypeId × Value → T} {base : Nat} {held : Bool}
theorem flat_cut : ∀ (ls : List (List Value)) (pre : List Value) (j : Nat) (l : List Value), ls[j]? = some l → ((pre ++ ls.flatten).drop (pre.length + ((ls.take j).map List.length).sum)).take l.length = l := by
  intro ls
  induction ls with
  | nil => intro pre j l h; simp at h
  | cons x ls ih =>
    intro pre j l h
    cases j with
    | zero =>
      simp at h; subst h
      simp
    | succ j =>
      simp at h
      have := ih (pre ++ x) j l h
      simp only [List.flatten_cons, List.take_succ_cons, List.map_cons, List.sum_cons, List.length_append, List.append_assoc] at this ⊢
      rw [Nat.add_assoc] at this
      exact this
theorem tilesF_spec {tot : Nat} : ∀ (fs : List Field) (off : Nat), tilesF P fs off tot = true → off + ((fs.map fun f => P.cellsOf f.type)).sum = tot ∧
    ∀ (j : Nat) (f : Field), fs[j]? = some f → f.offset = off + ((fs.take j).map fun f => P.cellsOf f.type).sum := by
  intro fs
  induction fs with
  | nil => intro off h; simp [tilesF] at h; subst h; exact ⟨by simp, fun j f h => by simp at h⟩
  | cons f fs ih =>
    intro off h
    simp only [tilesF, Bool.and_eq_true, beq_iff_eq] at h
    obtain ⟨h1, h2⟩ := ih _ h.2
    refine ⟨by simp only [List.map_cons, List.sum_cons]; omega, fun j g hj => ?_⟩
    cases j with
    | zero => simp at hj; subst hj; simp [h.1]
    | succ j =>
      simp at hj
      have := h2 j g hj
      simp only [List.take_succ_cons, List.map_cons, List.sum_cons]; omega
theorem pieces_all (cs : List Value) : ∀ (ns : List Nat) (off : Nat) (ps : List (List Value)), ps.length = ns.length → (∀ (j n : Nat) (p : List Value), ns[j]? = some n → ps[j]? = some p → p = (cs.drop (off + (ns.take j).sum)).take n) →
    ps.flatten = (cs.drop off).take ns.sum := by
  intro ns
  induction ns with
  | nil => intro off ps h _; cases ps; simp; simp at h
  | cons n ns ih =>
    intro off ps h hp
    cases ps with
    | nil => simp at h
    | cons p ps =>
      have h0 := hp 0 n p rfl rfl
      have := ih (off + n) ps (by simpa using h) fun j m q hj hq => by
        have := hp (j + 1) m q (by simpa using hj) (by simpa using hq)
        simp only [List.take_succ_cons, List.sum_cons] at this
        rw [this, Nat.add_assoc]
      simp only [List.flatten_cons, List.sum_cons, this, h0]
      simp only [List.take_zero, List.sum_nil, Nat.add_zero]
      rw [← List.drop_drop, ← List.take_add]
theorem place_parts {t : TypeId} {cs : List Value} {its : List (Item T)} {ns : List Nat} {d : DataW T} (hns : ns.length = its.length) (hsum : ns.sum = cs.length)
    (hcut : ∀ (j n : Nat) (x : Item T), ns[j]? = some n → its[j]? = some x → x.cs = (cs.drop (ns.take j).sum).take n)
    (hpl : ∀ x ∈ its, Place P w H x.t x.cs x.d)
    (habs : ∀ (s : AS H) (acs : List Value), acs.length = cs.length → (∀ (j n : Nat) (x : Item T), ns[j]? = some n → its[j]? = some x → Abs P s x.t ((acs.drop (ns.take j).sum).take n) x.d) → Abs P s t acs d) : Place P w H t cs d := by
  intro ρ s hR hro
  obtain ⟨ρ1, s1, ls, m1, R1, ro1, hll, hx⟩ := places its hpl ρ s hR hro
  have hflat : (its.map (·.cs)).flatten = cs := by
    have := pieces_all cs ns 0 (its.map (·.cs)) (by simp [hns]) fun j n p hj hp => by
      simp only [List.getElem?_map, Option.map_eq_some_iff] at hp
      obtain ⟨x, hx, rfl⟩ := hp
      rw [Nat.zero_add]; exact hcut j n x hj hx
    rw [this, hsum]; simp
  have hvl : VL ρ1 ls.flatten cs := by
    have := VL.flat (ρ := ρ1) ls (its.map (·.cs)) (by simp [hll]) fun j l c h1 h2 => by
      simp only [List.getElem?_map, Option.map_eq_some_iff] at h2
      obtain ⟨x, hxx, rfl⟩ := h2
      exact (hx j l x h1 hxx).1
    rw [hflat] at this; exact this
  have hlens : ∀ (j n : Nat) (l : List Value), ns[j]? = some n → ls[j]? = some l → l.length = n := fun j n l hj hl => by
    have hjl : j < its.length := by have := (List.getElem?_eq_some_iff.1 hj).1; omega
    have hxj : its[j]? = some its[j] := List.getElem?_eq_getElem hjl
    rw [(hx j l _ hl hxj).1.1, hcut j n _ hj hxj]
    simp only [List.length_take, List.length_drop]
    have : (ns.take j).sum + n ≤ ns.sum := by
      have e : ns = ns.take j ++ n :: ns.drop (j + 1) := by
        obtain ⟨h1, h2⟩ := List.getElem?_eq_some_iff.1 hj
        rw [← h2, ← List.drop_eq_getElem_cons h1, List.take_append_drop]
      have := congrArg List.sum e
      simp only [List.sum_append, List.sum_cons] at this
      omega
    omega
  have hmap : ls.map List.length = ns := by
    apply List.ext_getElem?
    intro j
    rw [List.getElem?_map]
    rcases Nat.lt_or_ge j ls.length with h | h
    · have h2 : j < ns.length := by omega
      rw [List.getElem?_eq_getElem h, List.getElem?_eq_getElem h2, Option.map_some, hlens j _ _ (List.getElem?_eq_getElem h2) (List.getElem?_eq_getElem h)]
    · rw [List.getElem?_eq_none h, List.getElem?_eq_none (by omega)]; rfl
  refine ⟨ρ1, s1, ls.flatten, m1, R1, ro1, hvl, habs s1 _ hvl.1 fun j n x hj hxx => ?_⟩
  have hjl : j < ls.length := by have := (List.getElem?_eq_some_iff.1 hj).1; omega
  have hlj : ls[j]? = some ls[j] := List.getElem?_eq_getElem hjl
  have hcutl := flat_cut ls [] j _ hlj
  simp only [List.nil_append, List.length_nil, Nat.zero_add, List.map_take, hmap] at hcutl
  rw [hlens j n _ hj hlj] at hcutl
  rw [hcutl]
  exact (hx j _ x hlj hxx).2
theorem map_some_length {α β : Type} {f : α → Option β} (l : List α) {r : List β} (h : l.mapM f = some r) : r.length = l.length ∧ ∀ (j : Nat) (a : α) (b : β), l[j]? = some a → r[j]? = some b → f a = some b := by
  induction l generalizing r with
  | nil => simp at h; subst h; exact ⟨rfl, fun j a b h => by simp at h⟩
  | cons x xs ih =>
    obtain ⟨y, ys, h1, h2, rfl⟩ := mapM_cons_some h
    obtain ⟨g1, g2⟩ := ih h2
    refine ⟨by simp [g1], fun j a b ha hb => ?_⟩
    cases j with
    | zero => simp at ha hb; subst ha; subst hb; exact h1
    | succ j => simp at ha hb; exact g2 j a b ha hb
theorem trod_bool {sp : Nat → Bool} {fuel : Nat} {t : TypeId} {cs : List Value} {x : DataW T × List MemPlace} (ht : P.underlying t = some .bool) (h : DataW.trod enc P w base sp held (fuel + 1) t cs = some x) :
    ∃ b, cs = [.bool b] ∧ x.1 = .lit (.bool b) := by
  simp only [DataW.trod, ht] at h
  split at h
  all_goals first | (cases h; done) | (rename_i heq; cases heq; done) | (rename_i heq; cases heq)
  cases h; exact ⟨_, rfl, rfl⟩
theorem trod_int {sp : Nat → Bool} {fuel : Nat} {t : TypeId} {k : IntKind} {cs : List Value} {x : DataW T × List MemPlace} (ht : P.underlying t = some (.int k)) (h : DataW.trod enc P w base sp held (fuel + 1) t cs = some x) :
    ∃ n, cs = [.int k n] ∧ x.1 = .lit (.int k n) ∧ (Lit.int k n).wf = true := by
  simp only [DataW.trod, ht] at h
  split at h
  all_goals first | (cases h; done) | (rename_i heq; cases heq; done) | (rename_i heq; cases heq)
  split at h
  · rename_i hc; obtain ⟨rfl, hw⟩ := hc; cases h; exact ⟨_, rfl, rfl, hw⟩
  · cases h
theorem trod_float {sp : Nat → Bool} {fuel : Nat} {t : TypeId} {k : FloatKind} {cs : List Value} {x : DataW T × List MemPlace} (ht : P.underlying t = some (.float k)) (h : DataW.trod enc P w base sp held (fuel + 1) t cs = some x) :
    ∃ n, cs = [.float k n] ∧ x.1 = .lit (.float k n) ∧ (Lit.float k n).wf = true := by
  simp only [DataW.trod, ht] at h
  split at h
  all_goals first | (cases h; done) | (rename_i heq; cases heq; done) | (rename_i heq; cases heq)
  split at h
  · rename_i hc; obtain ⟨rfl, hw⟩ := hc; cases h; exact ⟨_, rfl, rfl, hw⟩
  · cases h
theorem trod_string {sp : Nat → Bool} {fuel : Nat} {t : TypeId} {cs : List Value} {x : DataW T × List MemPlace} (ht : P.underlying t = some .string) (h : DataW.trod enc P w base sp held (fuel + 1) t cs = some x) :
    ∃ b, cs = [.string b] ∧ x.1 = .lit (.string b.data.toList) ∧ b.size ≤ maxLen := by
  simp only [DataW.trod, ht] at h
  split at h
  all_goals first | (cases h; done) | (rename_i heq; cases heq; done) | (rename_i heq; cases heq)
  split at h
  · rename_i hc; cases h; exact ⟨_, rfl, rfl, hc⟩
  · cases h
theorem trod_slice {fuel : Nat} {t e : TypeId} {cs : List Value} {x : DataW T × List MemPlace} (ht : P.underlying t = some (.slice e)) (h : DataW.trod enc P w base (fun _ => true) held (fuel + 1) t cs = some x) :
    (cs = [.slice none 0 0] ∧ x.1 = .nil) ∨ ∃ (a : Addr) (len cap : Nat) (es rs : List (DataW T × List MemPlace)), cs = [.slice (some a) len cap] ∧ len ≤ cap ∧ cap ≤ maxLen ∧ x.1 = .slice (es.map (·.1)) (rs.map (·.1)) ∧
      (List.range len).mapM (fun i => (w.cells? base (a.add (i * P.cellsOf e)) (P.cellsOf e)).bind (DataW.trod enc P w base (fun _ => true) held fuel e)) = some es ∧
      (List.range (cap - len)).mapM (fun j => (w.cells? base (a.add ((len + j) * P.cellsOf e)) (P.cellsOf e)).bind (DataW.trod enc P w base (fun _ => true) held fuel e)) = some rs := by
  simp only [DataW.trod, ht] at h
  split at h
  all_goals first | (cases h; done) | (rename_i heq; cases heq; done) | (rename_i heq; cases heq)
  · cases h; exact .inl ⟨rfl, rfl⟩
  · split at h
    · rename_i hc
      right
      obtain ⟨es, h1, h2⟩ := Option.bind_eq_some_iff.1 h
      obtain ⟨rs, h3, h4⟩ := Option.map_eq_some_iff.1 h2
      simp only [if_true] at h3
      refine ⟨_, _, _, es, rs, rfl, hc.2.1, hc.2.2, by rw [← h4], h1, h3⟩
    · cases h
theorem trod_struct {sp : Nat → Bool} {fuel : Nat} {t : TypeId} {fs : Array Field} {cs : List Value} {x : DataW T × List MemPlace} (ht : P.underlying t = some (.struct fs)) (h : DataW.trod enc P w base sp held (fuel + 1) t cs = some x) :
    cs.length = P.cellsOf t ∧ ∃ xs, fs.toList.mapM (fun f => DataW.trod enc P w base sp held fuel f.type ((cs.drop f.offset).take (P.cellsOf f.type))) = some xs ∧ x.1 = .agg (xs.map (·.1)) := by
  simp only [DataW.trod, ht] at h
  split at h
  · rename_i hc
    obtain ⟨xs, h1, h2⟩ := Option.map_eq_some_iff.1 h
    exact ⟨hc, xs, h1, by rw [← h2]⟩
  · cases h
theorem trod_array {sp : Nat → Bool} {fuel : Nat} {t : TypeId} {m : Nat} {e : TypeId} {cs : List Value} {x : DataW T × List MemPlace} (ht : P.underlying t = some (.array m e)) (h : DataW.trod enc P w base sp held (fuel + 1) t cs = some x) :
    cs.length = P.cellsOf t ∧ ∃ xs, (List.range m).mapM (fun i => DataW.trod enc P w base sp held fuel e ((cs.drop (i * P.cellsOf e)).take (P.cellsOf e))) = some xs ∧ x.1 = .agg (xs.map (·.1)) := by
  simp only [DataW.trod, ht] at h
  split at h
  · rename_i hc
    obtain ⟨xs, h1, h2⟩ := Option.map_eq_some_iff.1 h
    exact ⟨hc, xs, h1, by rw [← h2]⟩
  · cases h
def HasBlock (w : World) : Prop := ∃ (b : Nat) (c : Array Value) (el : TypeId) (fz : Nat × Nat), w.heap[b]? = some (.cells c el fz)
def NoSl (cs : List Value) : Prop := ∀ v ∈ cs, ∀ a n c, v ≠ .slice (some a) n c
theorem NoSl.part {cs : List Value} (h : NoSl cs) (i n : Nat) : NoSl ((cs.drop i).take n) := fun v hv => h v (List.mem_of_mem_drop (List.mem_of_mem_take hv))
theorem place_of : ∀ (fuel k : Nat) (t : TypeId) (cs : List Value) (x : DataW T × List MemPlace), (HasBlock w ∨ NoSl cs) → plainT P k t = true →
    DataW.trod enc P w base (fun _ => true) held fuel t cs = some x → Place P w H t cs x.1 := by
  intro fuel
  induction fuel with
  | zero => intro k t cs x _ _ h; simp [DataW.trod] at h
  | succ fuel ih =>
    intro k t cs x hw hk h
    cases k with
    | zero => cases hk
    | succ k =>
    simp only [plainT] at hk
    split at hk
    · rename_i ht
      obtain ⟨b, rfl, hx⟩ := trod_bool ht h
      rw [hx]
      exact fun ρ s hR hro => ⟨ρ, s, _, .refl _ _, hR, hro, .cons (.bool b) (.nil _), .bool ht⟩
    · rename_i ht
      obtain ⟨n, rfl, hx, hwf⟩ := trod_int ht h
      rw [hx]
      exact fun ρ s hR hro => ⟨ρ, s, _, .refl _ _, hR, hro, .cons (.int _ n) (.nil _), .int ht hwf⟩
    · rename_i ht
      obtain ⟨n, rfl, hx, hwf⟩ := trod_float ht h
      rw [hx]
      exact fun ρ s hR hro => ⟨ρ, s, _, .refl _ _, hR, hro, .cons (.float (.inl rfl)) (.nil _), .float ht hwf⟩
    · rename_i ht
      obtain ⟨b, rfl, hx, hwf⟩ := trod_string ht h
      rw [hx]
      exact fun ρ s hR hro => ⟨ρ, s, _, .refl _ _, hR, hro, .cons (.string b) (.nil _), .string ht hwf⟩
    · rename_i e ht
      simp only [Bool.and_eq_true, decide_eq_true_eq] at hk
      rcases trod_slice ht h with ⟨rfl, hx⟩ | ⟨a, len, cap, es, rs, rfl, h1, h2, hx, h3, h4⟩
      · rw [hx]
        exact fun ρ s hR hro => ⟨ρ, s, _, .refl _ _, hR, hro, .cons .slNil (.nil _), .nil ht⟩
      · rw [hx]
        have hw : HasBlock w := hw.resolve_right fun hn => hn _ (List.mem_cons_self ..) a len cap rfl
        obtain ⟨e1, e2⟩ := map_some_length _ h3
        obtain ⟨r1, r2⟩ := map_some_length _ h4
        simp at e1 r1
        refine place_slice (base := base) ht hk.1 ⟨h1, h2⟩ hw (by simp [e1]) (fun i d hd => ?_) (fun hc => ?_)
        · simp only [List.getElem?_map, Option.map_eq_some_iff] at hd
          obtain ⟨y, hy, rfl⟩ := hd
          have hi : i < len := by have := (List.getElem?_eq_some_iff.1 hy).1; omega
          have := e2 i i y (by simp [hi]) hy
          obtain ⟨c, g1, g2⟩ := Option.bind_eq_some_iff.1 this
          exact ⟨c, g1, ih k e c y (.inl hw) hk.2 g2⟩
        · rcases Nat.eq_zero_or_pos len with z | z
          · have hr : rs[0]? = some (rs[0]'(by omega)) := List.getElem?_eq_getElem (by omega)
            have := r2 0 0 _ (List.getElem?_range (by omega)) hr
            obtain ⟨c, g1, g2⟩ := Option.bind_eq_some_iff.1 this
            rw [z] at g1
            exact ⟨0, c, hc, by simpa using g1, rfl⟩
          · have hr : es[0]? = some (es[0]'(by omega)) := List.getElem?_eq_getElem (by omega)
            have := e2 0 0 _ (List.getElem?_range (by omega)) hr
            obtain ⟨c, g1, g2⟩ := Option.bind_eq_some_iff.1 this
            exact ⟨0, c, hc, g1, rfl⟩
    · rename_i fs ht
      simp only [Bool.and_eq_true] at hk
      obtain ⟨hlen, xs, h1, hx⟩ := trod_struct ht h
      rw [hx]
      obtain ⟨e1, e2⟩ := map_some_length _ h1
      obtain ⟨t1, t2⟩ := tilesF_spec fs.toList 0 hk.1
      rw [List.all_eq_true] at hk
      have hmapt : ∀ j, ((fs.toList.map fun f => P.cellsOf f.type).take j) = (fs.toList.take j).map fun f => P.cellsOf f.type := fun j => by rw [List.map_take]
      refine place_parts (its := (List.range fs.toList.length).map fun j => (⟨((fs.toList[j]?).map (·.type)).getD 0, (cs.drop (((fs.toList[j]?).map (·.offset)).getD 0)).take (P.cellsOf (((fs.toList[j]?).map (·.type)).getD 0)), ((xs[j]?).map (·.1)).getD .nil⟩ : Item T))
        (ns := fs.toList.map fun f => P.cellsOf f.type) (by simp) (by omega) (fun j n y hj hy => ?_) (fun y hy => ?_) (fun s acs hal ha => ?_)
      · have hjl : j < fs.toList.length := by have := (List.getElem?_eq_some_iff.1 hj).1; simpa using this
        have hf : fs.toList[j]? = some fs.toList[j] := List.getElem?_eq_getElem hjl
        simp only [List.getElem?_map, hf, Option.map_some, Option.some.injEq] at hj
        simp only [List.getElem?_map, List.getElem?_range hjl, Option.map_some, Option.some.injEq] at hy
        subst hy; subst hj
        simp only [hf, Option.map_some, Option.getD_some]
        rw [t2 j _ hf, hmapt, Nat.zero_add]
      · obtain ⟨j, hj, rfl⟩ := List.mem_map.1 hy
        have hjl : j < fs.toList.length := by simpa using hj
        have hf : fs.toList[j]? = some fs.toList[j] := List.getElem?_eq_getElem hjl
        have hxj : xs[j]? = some (xs[j]'(by omega)) := List.getElem?_eq_getElem (by omega)
        simp only [hf, hxj, Option.map_some, Option.getD_some]
        exact ih k _ _ _ (hw.imp id fun hn => hn.part _ _) (hk.2 _ (List.getElem_mem hjl)) (e2 j _ _ hf hxj)
      · refine .struct ht (by rw [hal]; exact hlen) (by simp [e1]) fun j f d hf hd => ?_
        have hjl : j < fs.toList.length := (List.getElem?_eq_some_iff.1 hf).1
        have := ha j (P.cellsOf f.type) _ (by rw [List.getElem?_map, hf]; rfl) (by rw [List.getElem?_map, List.getElem?_range hjl]; rfl)
        simp only [hf, Option.map_some, Option.getD_some] at this
        rw [t2 j f hf, Nat.zero_add, ← hmapt]
        simp only [List.getElem?_map] at hd
        rw [hd] at this
        exact this
    · rename_i m e ht
      simp only [Bool.and_eq_true, decide_eq_true_eq] at hk
      obtain ⟨hlen, xs, h1, hx⟩ := trod_array ht h
      rw [hx]
      obtain ⟨e1, e2⟩ := map_some_length _ h1
      simp at e1
      have hrep : ∀ j, j ≤ m → ((List.replicate m (P.cellsOf e)).take j).sum = j * P.cellsOf e := fun j hj => by
        rw [List.take_replicate, Nat.min_eq_left hj]; simp
      refine place_parts (its := (List.range m).map fun j => (⟨e, (cs.drop (j * P.cellsOf e)).take (P.cellsOf e), ((xs[j]?).map (·.1)).getD .nil⟩ : Item T)) (ns := List.replicate m (P.cellsOf e)) (by simp) (by simp; omega)
        (fun j n y hj hy => ?_) (fun y hy => ?_) (fun s acs hal ha => ?_)
      · have hjm : j < m := by have := (List.getElem?_eq_some_iff.1 hj).1; simpa using this
        simp only [List.getElem?_map, List.getElem?_range hjm, Option.map_some, Option.some.injEq] at hy
        rw [List.getElem?_replicate, if_pos hjm] at hj
        subst hy; cases hj
        rw [hrep j (by omega)]
      · obtain ⟨j, hj, rfl⟩ := List.mem_map.1 hy
        have hjm : j < m := by simpa using hj
        have hxj : xs[j]? = some (xs[j]'(by omega)) := List.getElem?_eq_getElem (by omega)
        simp only [hxj, Option.map_some, Option.getD_some]
        exact ih k _ _ _ (hw.imp id fun hn => hn.part _ _) hk.2 (e2 j j _ (List.getElem?_range hjm) hxj)
      · refine .array ht (by rw [hal]; exact hlen) (by simp [e1]) fun j d hj hd => ?_
        have := ha j (P.cellsOf e) _ (by rw [List.getElem?_replicate, if_pos hj]) (by rw [List.getElem?_map, List.getElem?_range hj]; rfl)
        simp only [hrep j (by omega)] at this
        simp only [List.getElem?_map] at hd
        rw [hd] at this
        exact this
    · cases hk
end
end Go.Vam
