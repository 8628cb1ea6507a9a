/- Groups: what parts are like: plain. -/
import Derived.Test.YtpphomoijlilfaaGA
import Derived.Test.YtpphomoijlilfaaGB
import Derived.Test.YtpphomoijlilfaaPpIr
import Derived.Test.YtpphomoijlilfaaBase
namespace Go.Hang
variable {α β : Type}
theorem headLt_irr {lt : α → α → Prop} (irr : ∀ x, ¬ lt x x) (a : List α) : ¬ headLt lt a a := by
  rintro ⟨x, y, h1, h2, h3⟩
  rw [h1] at h2; cases h2
  exact irr x h3
section
variable {all : List α} {R : α → α → Prop} {lt : α → α → Prop} {G : List (List α)}
theorem Parts.one (irr : ∀ x, ¬ lt x x) (tr : ∀ x y z, lt x y → lt y z → lt x z) (h : Parts all R lt G) {g g' : List α} (hg : g ∈ G) (hg' : g' ∈ G) {x : α} (hx : x ∈ g) (hx' : x ∈ g') : g = g' :=
  sorted_eq irr tr (h.sort g hg) (h.sort g' hg') fun y => by rw [h.whole g hg x hx y, h.whole g' hg' x hx' y]
theorem Parts.ix (irr : ∀ x, ¬ lt x x) (tr : ∀ x y z, lt x y → lt y z → lt x z) (h : Parts all R lt G) {i j : Nat} {g g' : List α} (hi : G[i]? = Option.some g) (hj : G[j]? = Option.some g') {x : α} (hx : x ∈ g) (hx' : x ∈ g') : i = j := by
  have e := h.one irr tr (List.mem_of_getElem? hi) (List.mem_of_getElem? hj) hx hx'
  subst e
  obtain ⟨li, ei⟩ := List.getElem?_eq_some_iff.1 hi
  obtain ⟨lj, ej⟩ := List.getElem?_eq_some_iff.1 hj
  have ho := List.pairwise_iff_getElem.1 h.order
  rcases Nat.lt_trichotomy i j with h1 | h1 | h1
  · have := ho i j li lj h1
    rw [ei, ej] at this
    exact absurd this (headLt_irr irr g)
  · exact h1
  · have := ho j i lj li h1
    rw [ei, ej] at this
    exact absurd this (headLt_irr irr g)
theorem Parts.sub (h : Parts all R lt G) {g : List α} (hg : g ∈ G) {x : α} (hx : x ∈ g) : x ∈ all := ((h.whole g hg x hx x).1 hx).1
theorem Parts.nd (irr : ∀ x, ¬ lt x x) (h : Parts all R lt G) {g : List α} (hg : g ∈ G) : g.Nodup := (h.sort g hg).imp fun hl e => by subst e; exact irr _ hl
theorem Parts.perm (irr : ∀ x, ¬ lt x x) (tr : ∀ x y z, lt x y → lt y z → lt x z) (hn : all.Nodup) (h : Parts all R lt G) : G.flatten.Perm all := by
  refine (List.perm_ext_iff_of_nodup ?_ hn).2 fun x => ?_
  · unfold List.Nodup
    rw [List.pairwise_flatten]
    refine ⟨fun g hg => h.nd irr hg, h.order.imp_of_mem fun {g g'} hg hg' hl x hx y hy e => ?_⟩
    subst e
    have := h.one irr tr hg hg' hx hy
    subst this
    exact headLt_irr irr g hl
  · rw [List.mem_flatten]
    exact ⟨fun ⟨g, hg, hx⟩ => h.sub hg hx, fun hx => h.every x hx⟩
theorem Parts.nodup (irr : ∀ x, ¬ lt x x) (h : Parts all R lt G) : G.Nodup := h.order.imp fun {g g'} hl e => by subst e; exact headLt_irr irr g hl
end
theorem inj_len : ∀ (A : List α) (B : List β) (ρ : α → β → Prop), A.Nodup → (∀ a ∈ A, ∃ b ∈ B, ρ a b) → (∀ a ∈ A, ∀ a' ∈ A, ∀ b, ρ a b → ρ a' b → a = a') → A.length ≤ B.length
  | [], _, _, _, _, _ => Nat.zero_le _
  | a :: A, B, ρ, hn, tot, inj => by
    have : DecidableEq β := fun _ _ => Classical.propDecidable _
    obtain ⟨b, hb, hr⟩ := tot a (by simp)
    rw [List.nodup_cons] at hn
    have h1 := inj_len A (B.erase b) ρ hn.2 (fun a' ha' => by
      obtain ⟨b', hb', hr'⟩ := tot a' (by simp [ha'])
      refine ⟨b', (List.mem_erase_of_ne ?_).2 hb', hr'⟩
      intro e
      subst e
      have := inj a (by simp) a' (by simp [ha']) b' hr hr'
      subst this
      exact hn.1 ha') (fun a' ha' a'' ha'' => inj a' (by simp [ha']) a'' (by simp [ha'']))
    rw [List.length_erase_of_mem hb] at h1
    have h2 : 0 < B.length := List.length_pos_of_mem hb
    simp only [List.length_cons]
    omega
section
variable {all : List α} {R : α → α → Prop} {lt : α → α → Prop} {G : List (List α)} {all' : List β} {R' : β → β → Prop} {lt' : β → β → Prop} {G' : List (List β)}
theorem Parts.count (irr : ∀ x, ¬ lt x x) (tr : ∀ x y z, lt x y → lt y z → lt x z) (h : Parts all R lt G) (h' : Parts all' R' lt' G') (ρ : α → β → Prop) (htot : ∀ x ∈ all, ∃ y ∈ all', ρ x y)
    (hr : ∀ x ∈ all, ∀ x' ∈ all, ∀ y ∈ all', ∀ y' ∈ all', ρ x y → ρ x' y' → Reach all' R' y y' → Reach all R x x') : G.length ≤ G'.length := by
  refine inj_len G G' (fun g g' => ∃ x y, x ∈ g ∧ y ∈ g' ∧ g' ∈ G' ∧ ρ x y) (h.nodup irr) (fun g hg => ?_) fun g hg g2 hg2 g' => ?_
  · obtain ⟨x, hx⟩ := List.exists_mem_of_ne_nil g (h.some g hg)
    obtain ⟨y, hy, hxy⟩ := htot x (h.sub hg hx)
    obtain ⟨g', hg', hyg⟩ := h'.every y hy
    exact ⟨g', hg', x, y, hx, hyg, hg', hxy⟩
  · rintro ⟨x, y, hx, hy, hg', hxy⟩ ⟨x2, y2, hx2, hy2, _, hxy2⟩
    have h1 := ((h'.whole g' hg' y hy y2).1 hy2).2
    have h2 := hr x (h.sub hg hx) x2 (h.sub hg2 hx2) y (h'.sub hg' hy) y2 (h'.sub hg' hy2) hxy hxy2 h1
    have h3 := (h.whole g hg x hx x2).2 ⟨h.sub hg2 hx2, h2⟩
    exact h.one irr tr hg hg2 h3 hx2
theorem Parts.size (irr : ∀ x, ¬ lt x x) (h : Parts all R lt G) (h' : Parts all' R' lt' G') (ρ : α → β → Prop) (htot : ∀ x ∈ all, ∃ y ∈ all', ρ x y) (hinj : ∀ x ∈ all, ∀ x' ∈ all, ∀ y, ρ x y → ρ x' y → x = x')
    (hr : ∀ x ∈ all, ∀ x' ∈ all, ∀ y ∈ all', ∀ y' ∈ all', ρ x y → ρ x' y' → Reach all R x x' → Reach all' R' y y') {g : List α} {g' : List β} (hg : g ∈ G) (hg' : g' ∈ G') {x : α} {y : β} (hx : x ∈ g) (hy : y ∈ g') (hxy : ρ x y) : g.length ≤ g'.length := by
  refine inj_len g g' ρ (h.nd irr hg) (fun a ha => ?_) fun a ha a' ha' b => hinj a (h.sub hg ha) a' (h.sub hg ha') b
  obtain ⟨b, hb, hab⟩ := htot a (h.sub hg ha)
  have h1 := ((h.whole g hg x hx a).1 ha).2
  have h2 := hr x (h.sub hg hx) a (h.sub hg ha) y (h'.sub hg' hy) b hb hxy hab h1
  exact ⟨b, (h'.whole g' hg' y hy b).2 ⟨hb, h2⟩, hab⟩
end
def Lv (nxt : Nat → Nat → Prop) (m : Nat) : Nat → Nat → Prop
  | 0, i => i = 0
  | t + 1, i => Lv nxt m t i ∨ ∃ k, k < m ∧ Lv nxt m t k ∧ nxt k i
theorem countP_lt {p q : Nat → Bool} : ∀ (l : List Nat), (∀ i, p i = true → q i = true) → (∃ i, i ∈ l ∧ q i = true ∧ p i = false) → l.countP p < l.countP q
  | [], _, ⟨i, hi, _⟩ => by simp at hi
  | a :: l, hpq, ⟨i, hi, h1, h2⟩ => by
    rw [List.countP_cons, List.countP_cons]
    rcases List.mem_cons.1 hi with e | e
    · subst e
      have hm : l.countP p ≤ l.countP q := List.countP_mono_left fun x _ hx => hpq x hx
      rw [h1, h2]
      simp only [Bool.false_eq_true, if_false, if_true]
      omega
    · have ih := countP_lt l hpq ⟨i, e, h1, h2⟩
      cases hp : p a with
      | false => split <;> split <;> simp_all <;> omega
      | true => rw [hpq a hp]; simp only [if_true]; omega
theorem Lv.full {nxt : Nat → Nat → Prop} {m : Nat} (h : ∀ i, i < m → Reach (List.range m) nxt 0 i) : ∀ i, i < m → Lv nxt m m i := by
  intro i hi
  have hdec : ∀ t i, Decidable (Lv nxt m t i) := fun _ _ => Classical.propDecidable _
  have step : ∀ t, (∀ k i, k < m → i < m → Lv nxt m t k → nxt k i → Lv nxt m t i) ∨ t + 1 ≤ (List.range m).countP fun i => @decide (Lv nxt m t i) (hdec t i) := by
    intro t
    induction t with
    | zero =>
      refine .inr ?_
      refine List.countP_pos_iff.2 ⟨0, List.mem_range.2 (by omega), ?_⟩
      simp [Lv]
    | succ t ih =>
      by_cases hc : ∀ k i, k < m → i < m → Lv nxt m t k → nxt k i → Lv nxt m t i
      · refine .inl fun k i hk hi hl hn => ?_
        have hk2 : Lv nxt m t k := by
          rcases hl with hl | ⟨j, hj, hl, hn'⟩
          · exact hl
          · exact hc j k hj hk hl hn'
        exact .inl (hc k i hk hi hk2 hn)
      · refine .inr ?_
        have hcnt := ih.resolve_left hc
        simp only [Classical.not_forall] at hc
        obtain ⟨k, i, hk, hi, hl, hn, hx⟩ := hc
        refine Nat.lt_of_le_of_lt hcnt (countP_lt _ (fun i hp => ?_) ⟨i, List.mem_range.2 hi, ?_, ?_⟩)
        · exact decide_eq_true (.inl (of_decide_eq_true hp))
        · exact decide_eq_true (.inr ⟨k, hk, hl, hn⟩)
        · exact decide_eq_false hx
  have hcl := (step m).resolve_right (by
    have := List.countP_le_length (p := fun i => @decide (Lv nxt m m i) (hdec m i)) (l := List.range m)
    rw [List.length_range] at this
    omega)
  have h0 : ∀ t, Lv nxt m t 0 := by
    intro t
    induction t with
    | zero => rfl
    | succ t ih => exact .inl ih
  have all : ∀ j, Reach (List.range m) nxt 0 j → j < m → Lv nxt m m j := by
    intro j hr
    induction hr with
    | refl => intro _; exact h0 m
    | step hy hz hr ih =>
      intro hm
      have hym : _ < m := List.mem_range.1 (hy.mem (List.mem_range.2 (by omega)))
      exact hcl _ _ hym hm (ih hym) hr
  exact all i (h i hi) hi
theorem Parts.chain {all : List α} {R : α → α → Prop} {lt : α → α → Prop} {G : List (List α)} (irr : ∀ x, ¬ lt x x) (h : Parts all R lt G) {g : List α} (hg : g ∈ G) {x : α} (hx : g[0]? = Option.some x) :
    ∀ i, i < g.length → Reach (List.range g.length) (fun k j => ∃ y z, g[k]? = Option.some y ∧ g[j]? = Option.some z ∧ R y z) 0 i := by
  have hxg := List.mem_of_getElem? hx
  have hnd := h.nd irr hg
  have key : ∀ y, Reach all R x y → ∀ i, g[i]? = Option.some y → Reach (List.range g.length) (fun k j => ∃ y z, g[k]? = Option.some y ∧ g[j]? = Option.some z ∧ R y z) 0 i := by
    intro y hr
    induction hr with
    | refl =>
      intro i hi
      obtain ⟨l0, e0⟩ := List.getElem?_eq_some_iff.1 hx
      obtain ⟨li, ei⟩ := List.getElem?_eq_some_iff.1 hi
      have : (0 : Nat) = i := by
        rcases Nat.eq_zero_or_pos i with h0 | h0
        · exact h0.symm
        · exact absurd (e0.trans ei.symm) (List.pairwise_iff_getElem.1 hnd 0 i l0 li h0)
      subst this
      exact .refl
    | @step y z hy hz hr ih =>
      intro i hi
      have hyg : y ∈ g := (h.whole g hg x hxg y).2 ⟨hy.mem (h.sub hg hxg), hy⟩
      obtain ⟨k, hk, ek⟩ := List.getElem_of_mem hyg
      have hk2 : g[k]? = Option.some y := by rw [List.getElem?_eq_getElem hk, ek]
      exact (ih k hk2).step (List.mem_range.2 (List.getElem?_eq_some_iff.1 hi).1) ⟨y, z, hk2, hi, hr⟩
  intro i hi
  exact key g[i] ((h.whole g hg x hxg g[i]).1 (List.getElem_mem hi)).2 i (List.getElem?_eq_getElem hi)
end Go.Hang

/- Spots of a small ring: neighbours as the law asks for them, spots turned on: plain. -/
namespace Go.Proofs.Ytpphomoijlilfaa.G
open Go Go.Vam Go.Hang
def smI (n : Nat) (x : SpI) : Prop := (0 ≤ x.1 ∧ x.1 < (n : Int)) ∧ (0 ≤ x.2.1 ∧ x.2.1 < 12)
theorem smI.ok {n : Nat} {x : SpI} (h : smI n x) : okI n x := ⟨h.1.1, h.1.2, h.2.1⟩
theorem smI.w {n : Nat} (hn : n ≤ 20) {x : SpI} (h : smI n x) : wI x := by
  obtain ⟨⟨h1, h2⟩, h3, h4⟩ := h
  exact ⟨⟨by omega, by omega⟩, by omega, by omega⟩
def toS (x : SpI) : Spot := (x.1.toNat, x.2.1.toNat, x.2.2)
theorem sI_toS {n : Nat} {x : SpI} (h : smI n x) : sI x = sV (toS x) := by
  obtain ⟨⟨h1, h2⟩, h3, h4⟩ := h
  unfold sI sV toS
  simp only [Int.toNat_of_nonneg h1, Int.toNat_of_nonneg h3]
theorem mod_le {a b n : Nat} (ha : a < n) (hb : b < n) : (a + n - b) % n = if b ≤ a then a - b else a + n - b := by
  split
  · rw [show a + n - b = (a - b) + n by omega, Nat.add_mod_right, Nat.mod_eq_of_lt (by omega)]
  · rw [Nat.mod_eq_of_lt (by omega)]
theorem mod_up {a t n : Nat} (ha : a < n) (ht : t < n) : (a + t) % n = if a + t < n then a + t else a + t - n := by
  split
  · rw [Nat.mod_eq_of_lt (by omega)]
  · rw [show a + t = (a + t - n) + n by omega, Nat.add_mod_right, Nat.mod_eq_of_lt (by omega)]
    omega
theorem next_adj {n : Nat} (hn : n ≤ 20) {x y : SpI} (hx : smI n x) (hy : smI n y) : nextB (toS x) (toS y) n = true ↔ adj n x y := by
  rw [adj_iff hx.ok hy.ok (hx.w hn) (hy.w hn)]
  obtain ⟨⟨x1, x2⟩, x3, x4⟩ := hx
  obtain ⟨⟨y1, y2⟩, y3, y4⟩ := hy
  obtain ⟨x0, xg, xp⟩ := x
  obtain ⟨y0, yg, yp⟩ := y
  simp only at x1 x2 x3 x4 y1 y2 y3 y4
  obtain ⟨a, rfl⟩ := Int.eq_ofNat_of_zero_le x1
  obtain ⟨b, rfl⟩ := Int.eq_ofNat_of_zero_le y1
  obtain ⟨p, rfl⟩ := Int.eq_ofNat_of_zero_le x3
  obtain ⟨q, rfl⟩ := Int.eq_ofNat_of_zero_le y3
  have ha : a < n := by omega
  have hb : b < n := by omega
  unfold nextB dN eN toS cellI binsL binsR
  simp only [Int.toNat_natCast, mod_le ha hb, Bool.and_eq_true, Bool.or_eq_true, decide_eq_true_eq, ne_eq, Prod.mk.injEq]
  split <;> split <;> split <;> omega
def rotI (n t : Nat) (x : SpI) : SpI := (((x.1.toNat + t) % n : Nat), x.2.1, x.2.2)
theorem rot_sm {n t : Nat} {x : SpI} (h : smI n x) : smI n (rotI n t x) := by
  obtain ⟨⟨h1, h2⟩, h3⟩ := h
  refine ⟨⟨Int.natCast_nonneg _, ?_⟩, h3⟩
  have : (x.1.toNat + t) % n < n := Nat.mod_lt _ (by omega)
  show (((x.1.toNat + t) % n : Nat) : Int) < n
  omega
theorem rot_inj {n t : Nat} (ht : t < n) {x y : SpI} (hx : smI n x) (hy : smI n y) (h : cellI (rotI n t x) = cellI (rotI n t y)) : cellI x = cellI y := by
  obtain ⟨⟨x1, x2⟩, -⟩ := hx
  obtain ⟨⟨y1, y2⟩, -⟩ := hy
  unfold cellI rotI at h
  simp only [Prod.mk.injEq] at h
  obtain ⟨h1, h2⟩ := h
  rw [mod_up (by omega) ht, mod_up (by omega) ht] at h1
  unfold cellI
  rw [h2]
  congr 1
  split at h1 <;> split at h1 <;> omega
theorem rot_next {n t : Nat} (ht : t < n) {x y : SpI} (hx : smI n x) (hy : smI n y) : nextB (toS (rotI n t x)) (toS (rotI n t y)) n = nextB (toS x) (toS y) n := by
  obtain ⟨⟨x1, x2⟩, -⟩ := hx
  obtain ⟨⟨y1, y2⟩, -⟩ := hy
  have hd : dN (toS (rotI n t x)) (toS (rotI n t y)) n = dN (toS x) (toS y) n := by
    unfold dN toS rotI
    simp only [Int.toNat_natCast]
    have ha : x.1.toNat < n := by omega
    have hb : y.1.toNat < n := by omega
    rw [mod_le (Nat.mod_lt _ (by omega)) (Nat.mod_lt _ (by omega)), mod_le ha hb, mod_up ha ht, mod_up hb ht]
    split <;> split <;> split <;> split <;> omega
  have he : eN (toS (rotI n t x)) (toS (rotI n t y)) = eN (toS x) (toS y) := rfl
  unfold nextB
  rw [hd, he]
theorem rot_adj {n t : Nat} (hn : n ≤ 20) (ht : t < n) {x y : SpI} (hx : smI n x) (hy : smI n y) : adj n (rotI n t x) (rotI n t y) ↔ adj n x y := by
  rw [← next_adj hn (rot_sm hx) (rot_sm hy), ← next_adj hn hx hy, rot_next ht hx hy]
section
variable {n t : Nat} {L : List SpI}
structure Few (n : Nat) (L : List SpI) : Prop where
  hn : n ≤ 20
  sm : ∀ x ∈ L, smI n x
  one : (L.map cellI).Nodup
  len : L.length ≤ 80
theorem Few.same (h : Few n L) {x y : SpI} (hx : x ∈ L) (hy : y ∈ L) (e : cellI x = cellI y) : x = y := same_cell h.one hx hy e
theorem Few.nodup (h : Few n L) : L.Nodup := by
  have := h.one
  unfold List.Nodup at this ⊢
  rw [List.pairwise_map] at this
  exact this.imp fun hne e => hne (by rw [e])
theorem Few.rot (h : Few n L) (ht : t < n) : Few n (L.map (rotI n t)) := by
  refine ⟨h.hn, fun x hx => ?_, ?_, by rw [List.length_map]; exact h.len⟩
  · obtain ⟨y, hy, rfl⟩ := List.mem_map.1 hx
    exact rot_sm (h.sm y hy)
  · have := h.one
    unfold List.Nodup at this ⊢
    rw [List.map_map, List.pairwise_map]
    rw [List.pairwise_map] at this
    exact this.imp_of_mem fun {a b} ha hb hne e => hne (rot_inj ht (h.sm a ha) (h.sm b hb) e)
theorem Few.rot_eq (h : Few n L) (ht : t < n) {x y : SpI} (hx : x ∈ L) (hy : y ∈ L) (e : rotI n t x = rotI n t y) : x = y :=
  h.same hx hy (rot_inj ht (h.sm x hx) (h.sm y hy) (by rw [e]))
theorem Few.dd (h : Few n L) (y : SpI) : y ∈ ddP n L [] ↔ y ∈ L := by
  rw [ddP_mem]
  have hf : L.filter (fun x => decide (okI n x)) = L := by
    rw [List.filter_eq_self]
    exact fun x hx => decide_eq_true (h.sm x hx).ok
  rw [hf]
  simp only [List.not_mem_nil, List.map_nil, false_or, not_false_eq_true, true_and]
  constructor
  · rintro ⟨a, b, rfl, _⟩
    simp
  · intro hy
    obtain ⟨a, b, rfl⟩ := List.append_of_mem hy
    refine ⟨a, b, rfl, fun z hz e => ?_⟩
    have := h.one
    rw [List.map_append, List.map_cons, List.nodup_append] at this
    exact this.2.2 (cellI z) (List.mem_map_of_mem hz) (cellI y) (by simp) e
theorem Few.parts (h : Few n L) {R : List (List SpI)} (hP : Parts (ddP n L []) (adj n) ltI R) : Parts L (adj n) ltI R := by
  refine ⟨hP.some, hP.sort, fun g hg x hx y => ?_, fun x hx => hP.every x ((h.dd x).2 hx), hP.order⟩
  rw [hP.whole g hg x hx y, h.dd y]
  exact and_congr Iff.rfl ⟨Hang.Reach.mono fun z hz => (h.dd z).1 hz, Hang.Reach.mono fun z hz => (h.dd z).2 hz⟩
theorem Few.reach (h : Few n L) (ht : t < n) {x y : SpI} (hx : x ∈ L) (hy : y ∈ L) : Hang.Reach (L.map (rotI n t)) (adj n) (rotI n t x) (rotI n t y) ↔ Hang.Reach L (adj n) x y := by
  constructor
  · intro hr
    have key : ∀ Y, Hang.Reach (L.map (rotI n t)) (adj n) (rotI n t x) Y → ∀ y ∈ L, rotI n t y = Y → Hang.Reach L (adj n) x y := by
      intro Y hr
      induction hr with
      | refl =>
        intro y hy e
        have := h.rot_eq ht hy hx e
        subst this
        exact .refl
      | @step Y Z hY hZ hr ih =>
        intro z hz e
        obtain ⟨y, hy, ey⟩ := List.mem_map.1 (hY.mem (List.mem_map_of_mem hx))
        subst e ey
        exact (ih y hy rfl).step hz ((rot_adj h.hn ht (h.sm y hy) (h.sm z hz)).1 hr)
    exact key _ hr y hy rfl
  · intro hr
    induction hr with
    | refl => exact .refl
    | @step y z hY hz hr ih =>
      have hy' := hY.mem hx
      exact (ih hy').step (List.mem_map_of_mem hz) ((rot_adj h.hn ht (h.sm y hy') (h.sm z hz)).2 hr)
variable {RG RH : List (List SpI)}
theorem Few.count (h : Few n L) (ht : t < n) (hG : Parts L (adj n) ltI RG) (hH : Parts (L.map (rotI n t)) (adj n) ltI RH) : RH.length = RG.length := by
  refine Nat.le_antisymm ?_ ?_
  · refine hH.count ltI_irr ltI_tr hG (fun Y y => y ∈ L ∧ Y = rotI n t y) (fun Y hY => ?_) ?_
    · obtain ⟨y, hy, rfl⟩ := List.mem_map.1 hY
      exact ⟨y, hy, hy, rfl⟩
    · rintro Y _ Z _ y hy z hz ⟨_, rfl⟩ ⟨_, rfl⟩ hr
      exact (h.reach ht hy hz).2 hr
  · refine hG.count ltI_irr ltI_tr hH (fun y Y => Y = rotI n t y) (fun y hy => ⟨_, List.mem_map_of_mem hy, rfl⟩) ?_
    rintro y hy z hz Y _ Z _ rfl rfl hr
    exact (h.reach ht hy hz).1 hr
theorem Few.size (h : Few n L) (ht : t < n) (hG : Parts L (adj n) ltI RG) (hH : Parts (L.map (rotI n t)) (adj n) ltI RH) {g g' : List SpI} (hg : g ∈ RG) (hg' : g' ∈ RH) {x : SpI} (hx : x ∈ g) (hy : rotI n t x ∈ g') : g'.length = g.length := by
  refine Nat.le_antisymm ?_ ?_
  · refine hH.size ltI_irr hG (fun Y y => y ∈ L ∧ Y = rotI n t y) (fun Y hY => ?_) ?_ ?_ hg' hg hy hx ⟨hG.sub hg hx, rfl⟩
    · obtain ⟨y, hy, rfl⟩ := List.mem_map.1 hY
      exact ⟨y, hy, hy, rfl⟩
    · rintro Y _ Z _ y ⟨_, rfl⟩ ⟨_, rfl⟩
      rfl
    · rintro Y _ Z _ y hy z hz ⟨_, rfl⟩ ⟨_, rfl⟩ hr
      exact (h.reach ht hy hz).1 hr
  · refine hG.size ltI_irr hH (fun y Y => Y = rotI n t y) (fun y hy => ⟨_, List.mem_map_of_mem hy, rfl⟩) ?_ ?_ hg hg' hx hy rfl
    · rintro y hy z hz Y rfl e
      exact h.rot_eq ht hy hz e
    · rintro y hy z hz Y _ Z _ rfl rfl hr
      exact (h.reach ht hy hz).2 hr
def InG (R : List (List SpI)) (c : Nat) (x : SpI) : Prop := ∃ g, R[c]? = some g ∧ x ∈ g
theorem InG.ex (hG : Parts L (adj n) ltI RG) {x : SpI} (hx : x ∈ L) : ∃ c, InG RG c x := by
  obtain ⟨g, hg, hxg⟩ := hG.every x hx
  obtain ⟨c, hc, e⟩ := List.getElem_of_mem hg
  exact ⟨c, g, by rw [List.getElem?_eq_getElem hc, e], hxg⟩
theorem InG.lt {c : Nat} {x : SpI} (h : InG RG c x) : c < RG.length := by
  obtain ⟨g, hg, _⟩ := h
  exact (List.getElem?_eq_some_iff.1 hg).1
theorem InG.reach (hG : Parts L (adj n) ltI RG) {c d : Nat} {x y : SpI} (hx : InG RG c x) (hy : InG RG d y) : c = d ↔ Hang.Reach L (adj n) x y := by
  obtain ⟨g, hg, hxg⟩ := hx
  obtain ⟨g', hg', hyg⟩ := hy
  have hm := List.mem_of_getElem? hg
  have hm' := List.mem_of_getElem? hg'
  constructor
  · intro e
    subst e
    rw [hg] at hg'; cases hg'
    exact ((hG.whole g hm x hxg y).1 hyg).2
  · intro hr
    exact hG.ix ltI_irr ltI_tr hg hg' ((hG.whole g hm x hxg y).2 ⟨hG.sub hm' hyg, hr⟩) hyg
theorem Few.both (h : Few n L) (ht : t < n) (hG : Parts L (adj n) ltI RG) (hH : Parts (L.map (rotI n t)) (adj n) ltI RH) {c d c' d' : Nat} {x y : SpI} (hx : InG RG c x) (hy : InG RG d y) (hx' : InG RH c' (rotI n t x)) (hy' : InG RH d' (rotI n t y)) :
    (d = c ↔ d' = c') ∧ (d ≠ c → ¬ adj n x y) := by
  have hxL : x ∈ L := by obtain ⟨g, hg, hxg⟩ := hx; exact hG.sub (List.mem_of_getElem? hg) hxg
  have hyL : y ∈ L := by obtain ⟨g, hg, hyg⟩ := hy; exact hG.sub (List.mem_of_getElem? hg) hyg
  have h1 := InG.reach hG hx hy
  have h2 := InG.reach hH hx' hy'
  have h3 := h.reach ht hxL hyL
  refine ⟨⟨fun e => (h2.2 (h3.2 (h1.1 e.symm))).symm, fun e => (h1.2 (h3.1 (h2.1 e.symm))).symm⟩, fun hne ha => hne (h1.2 (Hang.Reach.refl.step hyL ha)).symm⟩
theorem Few.hit (h : Few n L) (hG : Parts L (adj n) ltI RG) {c k0 : Nat} {g : List SpI} {x : SpI} (hc : RG[c]? = some g) (hk : g[k0]? = some x) {i k : Nat} {g' : List SpI} {y : SpI} (hi : RG[i]? = some g') (hy : g'[k]? = some y) : cellI y = cellI x ↔ i = c ∧ k = k0 := by
  have hm := List.mem_of_getElem? hc
  have hm' := List.mem_of_getElem? hi
  have hx1 := List.mem_of_getElem? hk
  have hy1 := List.mem_of_getElem? hy
  constructor
  · intro e
    have e2 := h.same (hG.sub hm' hy1) (hG.sub hm hx1) e
    subst e2
    have e3 := hG.ix ltI_irr ltI_tr hi hc hy1 hx1
    subst e3
    rw [hi] at hc; cases hc
    refine ⟨rfl, ?_⟩
    have hnd := hG.nd ltI_irr hm
    obtain ⟨l1, e1⟩ := List.getElem?_eq_some_iff.1 hy
    obtain ⟨l2, e2⟩ := List.getElem?_eq_some_iff.1 hk
    rcases Nat.lt_trichotomy k k0 with h0 | h0 | h0
    · exact absurd (e1.trans e2.symm) (List.pairwise_iff_getElem.1 hnd k k0 l1 l2 h0)
    · exact h0
    · exact absurd (e2.trans e1.symm) (List.pairwise_iff_getElem.1 hnd k0 k l2 l1 h0)
  · rintro ⟨rfl, rfl⟩
    rw [hi] at hc; cases hc
    rw [hk] at hy; cases hy
    rfl
end
end Go.Proofs.Ytpphomoijlilfaa.G

/- Peaks: which group has a cell: walked. -/
namespace Go.Proofs.Ytpphomoijlilfaa.G
open Go Go.Vam Go.Hang
def outI (i0 k0 i k : Nat) : Int := if i0 < i ∨ (i0 = i ∧ k0 < k) then (i0 : Nat) else -1
theorem row_at {s0 s : Mm} {l : List HP} {G : Gs} (H : Hold s0 s l) (hl : ∀ P ∈ rowsHP G, P ∈ l) {i : Nat} {g : Value × List SpI} (hg : G[i]? = some g) : SlC s 3 g.1 g.2.length (g.2.flatMap eI) :=
  (H.own (sz := 3) (v := g.1) (n := g.2.length) (cs := g.2.flatMap eI) (hl _ (List.mem_map.2 ⟨g, List.mem_of_getElem? hg, rfl⟩))).slc
set_option maxHeartbeats 4000000 in
theorem run27 {X : Ctx} (hX : X.fns = fnsOf Try.prog) (ho : ∀ f args, f ≠ 15 ∧ f ≠ 38 → X.orc f args = none) {s : Mm} {gv : Value} {G : Gs} {i0 k0 : Nat} {c : Int × Int} (sg : SlC s 1 gv G.length (G.map (·.1))) (hr : ∀ (i : Nat) (g : Value × List SpI), G[i]? = some g → SlC s 3 g.1 g.2.length (g.2.flatMap eI)) (hl : G.length ≤ 1048576) (hrl : ∀ g ∈ G, g.2.length ≤ 1048576)
    (hit : ∀ (i : Nat) (g : Value × List SpI) (k : Nat) (y : SpI), G[i]? = some g → g.2[k]? = some y → (cellI y = c ↔ i = i0 ∧ k = k0)) (h0 : ∃ g, G[i0]? = some g ∧ k0 < g.2.length) :
    CallP X 27 [gv, .int .i64 c.1, .int .i64 c.2] s (fun r s' => r = .int .i64 (i0 : Nat) ∧ s = s') := by
  refine CallP_of (hX ▸ ir27_eq) (ho _ _ (by decide)) (Nat.le_of_ble_eq_true rfl) ?_
  refine qak (qan [0, 1, 2] ?_)
  simp only [o27_0, qah, qaj, qad, frame_nil, frame_cons, qae, qab, qaa, qac, Nat.reduceEqDiff, Nat.reduceAdd, ↓reduceIte, eq_self, Nat.zero_add]
  intro fr e0 e1 e2
  refine qai ?_
  refine qak (qan [0, 1, 2, 7] ?_)
  simp only [o27_1, qah, qaj, qad, qae, qab, qaa, qac, Nat.reduceEqDiff, ↓reduceIte, eq_self, e0, e1, e2]
  clear e0 e1 e2
  intro fr e0 e1 e2 e7
  refine qai ?_
  refine W_assoc ?_
  refine qak (qan [0, 1, 2, 7, 8] ?_)
  simp only [o27_2, qah, qaj, qad, qae, qab, qaa, qac, Nat.reduceEqDiff, ↓reduceIte, eq_self, e0, e1, e2, e7]
  clear e0 e1 e2 e7
  intro fr e0 e1 e2 e7 e8
  refine qai ?_
  refine qak (qat (W_loop (fun m fr s1 => ∃ i : Nat, i + m = G.length ∧ s = s1 ∧ geT fr 0 = gv ∧ geT fr 1 = .int .i64 c.1 ∧ geT fr 2 = .int .i64 c.2 ∧ geT fr 7 = .int .i64 (outI i0 k0 i 0) ∧ geT fr 8 = .int .i64 (i : Nat)) G.length ⟨0, by omega, rfl, e0, e1, e2, by rw [e7]; simp [outI], e8⟩ ?_))
  clear e0 e1 e2 e7 e8 fr
  rintro m fr _ ⟨i, hi, rfl, e0, e1, e2, e7, e8⟩
  refine W_assoc ?_
  refine qak (qan [0, 1, 2, 7, 8, 13] ?_)
  simp only [o27_4, qar, WO_bu, qah, bin_lss, qaj, qag, qad, qaf, qab, qaa, qac, List.map_cons, List.map_nil, Nat.reduceEqDiff, ↓reduceIte, eq_self, e0, e1, e2, e7, e8, sg.len]
  clear e0 e1 e2 e7 e8
  intro fr e0 e1 e2 e7 e8 e13
  refine qai ?_
  refine W_while e13 (fun hlt => ?_) (fun hlt => ?_)
  · have hi1 : i < G.length := by omega
    have hg := List.getElem?_eq_getElem hi1
    generalize G[i] = g at hg
    have sr := hr i g hg
    have hgl := hrl g (List.mem_of_getElem? hg)
    have A1 := sg.addr (kk := .i64) (i := ((i : Nat) : Int)) rfl hi1
    rw [Nat.mul_one] at A1
    have L1 : loadV s none (elP gv i) = some g.1 := sg.load (by rw [List.getElem?_map, hg]; rfl)
    refine qak (qat ?_)
    refine qak (qan [0, 1, 2, 7, 8, 9] ?_)
    simp only [o27_5, qah, qaj, qad, qae, qab, qaa, qac, Nat.reduceEqDiff, ↓reduceIte, eq_self, e0, e1, e2, e7, e8]
    clear e0 e1 e2 e7 e8 e13
    intro fr e0 e1 e2 e7 e8 e9
    refine qai ?_
    refine qat (W_loop (fun m2 fr s1 => ∃ k : Nat, k + m2 = g.2.length ∧ s = s1 ∧ geT fr 0 = gv ∧ geT fr 1 = .int .i64 c.1 ∧ geT fr 2 = .int .i64 c.2 ∧ geT fr 7 = .int .i64 (outI i0 k0 i k) ∧ geT fr 8 = .int .i64 (i : Nat) ∧ geT fr 9 = .int .i64 (k : Nat)) g.2.length ⟨0, by omega, rfl, e0, e1, e2, e7, e8, e9⟩ ?_)
    clear e0 e1 e2 e7 e8 e9 fr
    rintro m2 fr _ ⟨k, hk, rfl, e0, e1, e2, e7, e8, e9⟩
    refine W_assoc ?_
    refine qak (qan [0, 1, 2, 7, 8, 9, 22] ?_)
    simp only [o27_7, WO_addrSl, qar, WO_bu, WO_load, qah, bin_lss, qaj, qag, qad, qaf, qab, qaa, qac, List.map_cons, List.map_nil, Nat.reduceEqDiff, ↓reduceIte, eq_self, e0, e1, e2, e7, e8, e9, A1, L1, sr.len]
    clear e0 e1 e2 e7 e8 e9
    intro fr e0 e1 e2 e7 e8 e9 e22
    refine qai ?_
    refine W_while e22 (fun hlt2 => ?_) (fun hlt2 => ?_)
    · have hk1 : k < g.2.length := by omega
      obtain ⟨f0, f1, -, -⟩ := flatI hk1
      have hy : g.2[k]? = some (atI g.2 k) := by rw [atI_eq hk1, List.getElem?_eq_getElem hk1]
      have hh := hit i g k _ hg hy
      generalize atI g.2 k = y at f0 f1 hy hh
      have A2 := sr.addr (kk := .i64) (i := ((k : Nat) : Int)) rfl hk1
      have p0 := sr.fld (by omega) (k * 3) 0
      have p1 := sr.fld (by omega) (k * 3) 1
      rw [Nat.add_zero] at p0
      have l0 := sr.load f0
      have l1 := sr.load f1
      refine qak (qat ?_)
      refine W_assoc ?_
      by_cases hc : cellI y = c
      · have c1 : decide (y.1 = c.1) = true := decide_eq_true (congrArg Prod.fst hc)
        have c2 : decide (y.2.1 = c.2) = true := decide_eq_true (congrArg Prod.snd hc)
        obtain ⟨hi0, hk0⟩ := hh.1 hc
        have ho1 : outI i0 k0 i k = -1 := by unfold outI; rw [if_neg (by omega)]
        refine qak (qan [0, 1, 2, 7, 8, 9, 46] ?_)
        simp only [o27_8, WO_addrSl, qar, WO_fieldAddr, WO_load, qah, WO_pick, pick_b, bin_neq, qaj, qag, WO_guard, want_v, wantB_f, qad, qaf, qae, qab, qaa, qac, Nat.reduceEqDiff, ↓reduceIte, Bool.not_true, Bool.not_false, eq_self, Bool.false_eq_true, e0, e1, e2, e7, e8, e9, A1, L1, A2, p0, p1, l0, l1, c1, c2]
        clear e0 e1 e2 e7 e8 e9 e22
        intro fr e0 e1 e2 e7 e8 e9 e46
        refine qai ?_
        refine qak (W_cond e46 (fun h => by cases h) (fun _ => W_skip (qai ?_)))
        refine W_assoc ?_
        refine qak (qan [0, 1, 2, 8, 9, 48] ?_)
        simp only [o27_9, qar, qah, bin_neq, qaj, qag, qad, qaf, qae, qab, qaa, qac, Nat.reduceEqDiff, ↓reduceIte, Bool.not_true, decide_true, eq_self, e0, e1, e2, e7, e8, e9, ho1]
        clear e0 e1 e2 e7 e8 e9 e46
        intro fr e0 e1 e2 e8 e9 e48
        refine qai ?_
        refine qak (W_cond e48 (fun h => by cases h) (fun _ => W_skip (qai ?_)))
        refine qan [0, 1, 2, 7, 8, 9] ?_
        simp only [o27_11, qah, qaj, qad, qaf, qab, qaa, qac, Nat.reduceEqDiff, ↓reduceIte, eq_self, e0, e1, e2, e8, e9]
        clear e0 e1 e2 e8 e9 e48
        intro fr e0 e1 e2 e7 e8 e9
        refine BlkK_n (qai ?_)
        refine qan [0, 1, 2, 7, 8, 9] ?_
        simp only [o27_12, qar, qah, bin_add, qaj, qag, qad, qaf, qae, qab, qaa, qac, Nat.reduceEqDiff, ↓reduceIte, eq_self, e0, e1, e2, e7, e8, e9, qam (n := (k : Int) + 1) (by omega) (by omega)]
        clear e0 e1 e2 e7 e8 e9
        intro fr e0 e1 e2 e7 e8 e9
        refine LoopK_n (m' := m2 - 1) (by omega) ⟨k + 1, by omega, rfl, e0, e1, e2, ?_, e8, by rw [e9]; rfl⟩
        rw [e7]
        unfold outI
        rw [if_pos (by omega), hi0]
      · have hne : ¬ (i = i0 ∧ k = k0) := fun h => hc (hh.2 h)
        have ho1 : outI i0 k0 i k = outI i0 k0 i (k + 1) := by
          unfold outI
          by_cases h : i0 < i ∨ (i0 = i ∧ k0 < k)
          · rw [if_pos h, if_pos (by omega)]
          · rw [if_neg h, if_neg (by omega)]
        rw [ho1] at e7
        cases c1 : decide (y.1 = c.1) with
        | false =>
          refine qak (qan [0, 1, 2, 7, 8, 9, 46] ?_)
          simp only [o27_8, WO_addrSl, qar, WO_fieldAddr, WO_load, qah, WO_pick, pick_b, bin_neq, qaj, qag, WO_guard, want_v, wantB_f, qad, qaf, qae, qab, qaa, qac, Nat.reduceEqDiff, ↓reduceIte, Bool.not_true, Bool.not_false, eq_self, Bool.false_eq_true, e0, e1, e2, e7, e8, e9, A1, L1, A2, p0, l0, c1]
          clear e0 e1 e2 e7 e8 e9
          intro fr e0 e1 e2 e7 e8 e9 e46
          refine qai ?_
          refine qak (W_cond e46 (fun _ => W_exit (SeqK_x (BlkK_e (qai ?_)))) (fun h => by cases h))
          refine qan [0, 1, 2, 7, 8, 9] ?_
          simp only [o27_12, qar, qah, bin_add, qaj, qag, qad, qaf, qae, qab, qaa, qac, Nat.reduceEqDiff, ↓reduceIte, eq_self, e0, e1, e2, e7, e8, e9, qam (n := (k : Int) + 1) (by omega) (by omega)]
          clear e0 e1 e2 e7 e8 e9 e46
          intro fr e0 e1 e2 e7 e8 e9
          exact LoopK_n (m' := m2 - 1) (by omega) ⟨k + 1, by omega, rfl, e0, e1, e2, e7, e8, by rw [e9]; rfl⟩
        | true =>
          have c2 : decide (y.2.1 = c.2) = false := decide_eq_false fun h => hc (Prod.ext (of_decide_eq_true c1) h)
          refine qak (qan [0, 1, 2, 7, 8, 9, 46] ?_)
          simp only [o27_8, WO_addrSl, qar, WO_fieldAddr, WO_load, qah, WO_pick, pick_b, bin_neq, qaj, qag, WO_guard, want_v, wantB_f, qad, qaf, qae, qab, qaa, qac, Nat.reduceEqDiff, ↓reduceIte, Bool.not_true, Bool.not_false, eq_self, Bool.false_eq_true, e0, e1, e2, e7, e8, e9, A1, L1, A2, p0, p1, l0, l1, c1, c2]
          clear e0 e1 e2 e7 e8 e9
          intro fr e0 e1 e2 e7 e8 e9 e46
          refine qai ?_
          refine qak (W_cond e46 (fun _ => W_exit (SeqK_x (BlkK_e (qai ?_)))) (fun h => by cases h))
          refine qan [0, 1, 2, 7, 8, 9] ?_
          simp only [o27_12, qar, qah, bin_add, qaj, qag, qad, qaf, qae, qab, qaa, qac, Nat.reduceEqDiff, ↓reduceIte, eq_self, e0, e1, e2, e7, e8, e9, qam (n := (k : Int) + 1) (by omega) (by omega)]
          clear e0 e1 e2 e7 e8 e9 e46
          intro fr e0 e1 e2 e7 e8 e9
          exact LoopK_n (m' := m2 - 1) (by omega) ⟨k + 1, by omega, rfl, e0, e1, e2, e7, e8, by rw [e9]; rfl⟩
    · have hkk : k = g.2.length := by omega
      have ho2 : outI i0 k0 i k = outI i0 k0 (i + 1) 0 := by
        obtain ⟨g', h1, h2⟩ := h0
        unfold outI
        by_cases h : i0 < i
        · rw [if_pos (.inl h), if_pos (.inl (by omega))]
        · by_cases h' : i0 = i
          · subst h'
            rw [hg] at h1; cases h1
            rw [if_pos (.inr ⟨rfl, by omega⟩), if_pos (.inl (by omega))]
          · rw [if_neg (by omega), if_neg (by omega)]
      rw [ho2] at e7
      refine LoopK_x (BlkK_e (BlkK_n (qai ?_)))
      refine qan [0, 1, 2, 7, 8] ?_
      simp only [o27_13, qar, qah, bin_add, qaj, qag, qad, qaf, qae, qab, qaa, qac, Nat.reduceEqDiff, ↓reduceIte, eq_self, e0, e1, e2, e7, e8, qam (n := (i : Int) + 1) (by omega) (by omega)]
      clear e0 e1 e2 e7 e8 e9 e22
      intro fr e0 e1 e2 e7 e8
      exact LoopK_n (m' := m - 1) (by omega) ⟨i + 1, by omega, rfl, e0, e1, e2, e7, by rw [e8]; rfl⟩
  · have hii : i = G.length := by omega
    refine LoopK_x (BlkK_e (qai ?_))
    refine qak (qan [6] ?_)
    simp only [o27_14, qah, qaj, qad, qaf, qab, qaa, qac, ↓reduceIte, eq_self, e7]
    clear e0 e1 e2 e7 e8 e13
    intro fr e6
    refine qai ?_
    refine W_ret (Ret1 e6 ⟨?_, rfl⟩)
    obtain ⟨g', h1, -⟩ := h0
    have := (List.getElem?_eq_some_iff.1 h1).1
    unfold outI
    rw [if_pos (.inl (by omega))]
end Go.Proofs.Ytpphomoijlilfaa.G

/- Peaks: groups as they are to be: walked. -/
namespace Go.Proofs.Ytpphomoijlilfaa.G
open Go Go.Vam Go.Hang
def seenV (m : Nat) (f : Nat → Bool) : List Value := (List.range m).map fun j => .bool (f j)
theorem seenV_len (m : Nat) (f : Nat → Bool) : (seenV m f).length = m := by simp [seenV]
theorem seenV_at {m j : Nat} (f : Nat → Bool) (hj : j < m) : (seenV m f)[j]? = some (.bool (f j)) := by simp [seenV, hj]
def updB (f : Nat → Bool) (j : Nat) (b : Bool) : Nat → Bool := fun i => if i = j then b else f i
theorem seenV_set {m j : Nat} (f : Nat → Bool) (b : Bool) : (seenV m f).set j (.bool b) = seenV m (updB f j b) := by
  refine List.ext_getElem? fun i => ?_
  unfold seenV updB
  rw [List.getElem?_set, List.length_map, List.length_range]
  by_cases e : j = i
  · subst e
    by_cases hj : j < m
    · simp [hj]
    · rw [if_pos rfl, if_neg hj, List.getElem?_eq_none (by simp; omega)]
  · rw [if_neg e]
    by_cases hi : i < m
    · have e' : ¬ i = j := fun h => e h.symm
      simp [hi, e']
    · rw [List.getElem?_eq_none (by simp; omega), List.getElem?_eq_none (by simp; omega)]
theorem seenV_false (m : Nat) : List.replicate m (Value.bool false) = seenV m fun _ => false := by
  unfold seenV
  rw [List.map_const']
  simp
theorem ahead_lt {n : Nat} {x y : SpI} (hx : smI n x) (hy : smI n y) (h : ltI x y) : aheadB (toS x) (toS y) = true := by
  obtain ⟨⟨x1, x2⟩, x3, x4⟩ := hx
  obtain ⟨⟨y1, y2⟩, y3, y4⟩ := hy
  unfold ltI at h
  unfold aheadB toS
  simp only [Bool.or_eq_true, Bool.and_eq_true, decide_eq_true_eq]
  omega
theorem head_lt {R : List (List SpI)} (ho : R.Pairwise (headLt ltI)) {i : Nat} {g g' : List SpI} (hg : R[i]? = some g) (hg' : R[i + 1]? = some g') {x y : SpI} (hx : g[0]? = some x) (hy : g'[0]? = some y) : ltI x y := by
  obtain ⟨l1, e1⟩ := List.getElem?_eq_some_iff.1 hg
  obtain ⟨l2, e2⟩ := List.getElem?_eq_some_iff.1 hg'
  have := List.pairwise_iff_getElem.1 ho i (i + 1) l1 l2 (by omega)
  rw [e1, e2] at this
  obtain ⟨a, b, h1, h2, h3⟩ := this
  rw [List.head?_eq_getElem?] at h1 h2
  rw [hx] at h1; cases h1
  rw [hy] at h2; cases h2
  exact h3
def nxI (n : Nat) (r : List SpI) (k j : Nat) : Prop := ∃ y z, r[k]? = some y ∧ r[j]? = some z ∧ adj n y z
theorem row_ld {s : Mm} {n : Nat} {v : Value} {r : List SpI} (sr : SlC s 3 v r.length (r.flatMap eI)) (hsm : ∀ x ∈ r, smI n x) {k : Nat} {y : SpI} (hk : r[k]? = some y) : loadV s (some 3) (elP v (k * 3)) = some (sV (toS y)) := by
  obtain ⟨hk1, e⟩ := List.getElem?_eq_some_iff.1 hk
  rw [sr.loads (by omega) (by omega), (flatI hk1).2.2.2, atI_eq hk1, e, ← sI_toS (hsm y (List.mem_of_getElem? hk))]
  rfl
theorem run28i {X : Ctx} (hX : X.fns = fnsOf Try.prog) (ho : ∀ f args, f ≠ 15 ∧ f ≠ 38 → X.orc f args = none) {s : Mm} {n : Nat} (hn : n ≤ 20) {x y : SpI} (hx : smI n x) (hy : smI n y) :
    CallP X 28 [sV (toS x), sV (toS y), .int .i64 (n : Nat)] s (fun r s' => r = .bool (nextB (toS x) (toS y) n) ∧ Same s s' (fun _ => False)) := by
  obtain ⟨⟨x1, x2⟩, x3, x4⟩ := hx
  obtain ⟨⟨y1, y2⟩, y3, y4⟩ := hy
  have q1 : (toS x).1 < n := by show x.1.toNat < n; omega
  have q2 : (toS y).1 < n := by show y.1.toNat < n; omega
  have q3 : (toS x).2.1 ≤ 1099511627776 := by show x.2.1.toNat ≤ _; omega
  have q4 : (toS y).2.1 ≤ 1099511627776 := by show y.2.1.toNat ≤ _; omega
  exact run28 hX ho q1 q2 (by omega) q3 q4
set_option maxHeartbeats 4000000 in
theorem loop26c {X : Ctx} (hX : X.fns = fnsOf Try.prog) (ho : ∀ f args, f ≠ 15 ∧ f ≠ 38 → X.orc f args = none) {fr : Fr} {s0 s : Mm} {l : List HP} {gv rv sv : Value} {cs : List Value} {ng n i t k : Nat} {r : List SpI} {f0 f : Nat → Bool} {Q : AExit → Fr → Mm → Prop} (hn : n ≤ 20)
    (hi : i < ng) (hng : ng ≤ 80) (hcs : cs[i]? = some rv) (hrl : r.length ≤ 80) (hsm : ∀ x ∈ r, smI n x) (hk1 : k < r.length) (hm : ∀ i, i < r.length → f0 i = true → f i = true)
    (hgm : HP.own 1 gv ng cs ∈ l) (hrm : HP.own 3 rv r.length (r.flatMap eI) ∈ l)
    (e0 : geT fr 0 = gv) (e1 : geT fr 1 = .int .i64 (n : Nat)) (e5 : geT fr 5 = .int .i64 (i : Nat)) (e6 : geT fr 6 = sv) (e7 : geT fr 7 = .int .i64 (t : Nat)) (e8 : geT fr 8 = .int .i64 (k : Nat)) (e9 : geT fr 9 = .int .i64 0)
    (H : Hold s0 s (HP.own 1 sv r.length (seenV r.length f) :: l))
    (hQ : ∀ fr s f', geT fr 0 = gv → geT fr 1 = .int .i64 (n : Nat) → geT fr 5 = .int .i64 (i : Nat) → geT fr 6 = sv → geT fr 7 = .int .i64 (t : Nat) → geT fr 8 = .int .i64 (k : Nat) →
      (∀ i, i < r.length → f i = true → f' i = true) → (∀ j, j < r.length → f0 k = true → nxI n r k j → f' j = true) → Hold s0 s (HP.own 1 sv r.length (seenV r.length f') :: l) → Q .normal fr s) :
    W X (.block 6 (.loop b26_15)) fr s Q := by
  refine qat (W_loop (fun m fr s1 => ∃ (j : Nat) (f' : Nat → Bool), j + m = r.length ∧ (∀ i, i < r.length → f i = true → f' i = true) ∧ (∀ j', j' < j → f0 k = true → nxI n r k j' → f' j' = true) ∧
    geT fr 0 = gv ∧ geT fr 1 = .int .i64 (n : Nat) ∧ geT fr 5 = .int .i64 (i : Nat) ∧ geT fr 6 = sv ∧ geT fr 7 = .int .i64 (t : Nat) ∧ geT fr 8 = .int .i64 (k : Nat) ∧ geT fr 9 = .int .i64 (j : Nat) ∧
    Hold s0 s1 (HP.own 1 sv r.length (seenV r.length f') :: l)) r.length ⟨0, f, by omega, fun _ _ h => h, fun j h => absurd h (Nat.not_lt_zero j), e0, e1, e5, e6, e7, e8, e9, H⟩ ?_)
  clear e0 e1 e5 e6 e7 e8 e9 fr H s
  rintro m fr s1 ⟨j, f', hj, hm1, hd, e0, e1, e5, e6, e7, e8, e9, H⟩
  have sg := (H.own (sz := 1) (v := gv) (n := ng) (cs := cs) (by simp [hgm])).slc
  have sr := (H.own (sz := 3) (v := rv) (n := r.length) (cs := r.flatMap eI) (by simp [hrm])).slc
  have ss := (H.own (sz := 1) (v := sv) (n := r.length) (cs := seenV r.length f') (by simp)).slc
  have A1 := sg.addr (kk := .i64) (i := ((i : Nat) : Int)) rfl hi
  rw [Nat.mul_one] at A1
  have L1 : loadV s1 none (elP gv i) = some rv := sg.load hcs
  refine W_assoc ?_
  refine qak (qan [0, 1, 5, 6, 7, 8, 9, 76] ?_)
  simp only [o26_16, WO_addrSl, qar, WO_bu, WO_load, qah, bin_lss, qaj, qag, qad, qaf, qab, qaa, qac, List.map_cons, List.map_nil, Nat.reduceEqDiff, ↓reduceIte, eq_self, e0, e1, e5, e6, e7, e8, e9, A1, L1, sr.len]
  clear e0 e1 e5 e6 e7 e8 e9
  intro fr e0 e1 e5 e6 e7 e8 e9 e76
  refine qai ?_
  refine W_while e76 (fun hlt => ?_) (fun hlt => ?_)
  · have hj1 : j < r.length := by omega
    have A2 := ss.addr (kk := .i64) (i := ((j : Nat) : Int)) rfl hj1
    have A3 := ss.addr (kk := .i64) (i := ((k : Nat) : Int)) rfl hk1
    rw [Nat.mul_one] at A2 A3
    have L2 := ss.load (seenV_at f' hj1)
    have L3 := ss.load (seenV_at f' hk1)
    have next : ∀ (b : Bool) (fr : Fr) (s2 : Mm), (f' j = true → b = true) → (f0 k = true → nxI n r k j → b = true) →
        geT fr 0 = gv → geT fr 1 = .int .i64 (n : Nat) → geT fr 5 = .int .i64 (i : Nat) → geT fr 6 = sv → geT fr 7 = .int .i64 (t : Nat) → geT fr 8 = .int .i64 (k : Nat) → geT fr 9 = .int .i64 ((j + 1 : Nat) : Int) →
        Hold s0 s2 (HP.own 1 sv r.length (seenV r.length (updB f' j b)) :: l) →
        ∃ (j : Nat) (f' : Nat → Bool), j + (m - 1) = r.length ∧ (∀ i, i < r.length → f i = true → f' i = true) ∧ (∀ j', j' < j → f0 k = true → nxI n r k j' → f' j' = true) ∧
          geT fr 0 = gv ∧ geT fr 1 = .int .i64 (n : Nat) ∧ geT fr 5 = .int .i64 (i : Nat) ∧ geT fr 6 = sv ∧ geT fr 7 = .int .i64 (t : Nat) ∧ geT fr 8 = .int .i64 (k : Nat) ∧ geT fr 9 = .int .i64 (j : Nat) ∧
          Hold s0 s2 (HP.own 1 sv r.length (seenV r.length f') :: l) := by
      intro b fr s2 h1 h2 e0 e1 e5 e6 e7 e8 e9 H2
      refine ⟨j + 1, _, by omega, fun i hi hf => ?_, fun j' hj' hf hx => ?_, e0, e1, e5, e6, e7, e8, e9, H2⟩
      · unfold updB
        split
        · rename_i e; subst e; exact h1 (hm1 _ hi hf)
        · exact hm1 i hi hf
      · unfold updB
        split
        · rename_i e; subst e; exact h2 hf hx
        · exact hd j' (by omega) hf hx
    refine qak (qat ?_)
    cases h1 : f' j with
    | true =>
      rw [h1] at L2
      obtain ⟨s2, st, H2⟩ := H.store (k := j) (x := .bool true) (by rw [seenV_len]; exact hj1) rfl
      rw [seenV_set] at H2
      refine W_draw0 [0, 1, 5, 6, 7, 8, 9] rfl ?_
      simp only [d26_17, WD_addrSl, WD_load, WD_move, WD_pick, pick_b, WD_store, want_v, wantB_f, WD_nil, qal, qas, DActK_some, pastR_nil, preHead_nil, preHead_cons, qaq, qap, qao, Nat.testBit, Nat.reduceShiftRight, Nat.reduceAnd, Nat.reduceBneDiff, List.all_nil, List.all_cons, List.filter_nil, List.filter_cons, sameO_bool, qad, puT_none, qaf, qae, qab, qaa, qac, Nat.reduceEqDiff, Nat.reduceAdd, ↓reduceIte, Bool.not_true, Bool.and_true, Bool.or_true, eq_self, Bool.false_eq_true, true_and, Nat.zero_add, e0, e1, e5, e6, e7, e8, e9, WD_no_move, WD_no_addrSl, WD_no_load, WD_no_pick, WD_no_call, wantB_u, A2, L2, st]
      clear e0 e1 e5 e6 e7 e8 e9
      intro fr e0 e1 e5 e6 e7 e8 e9
      refine BlkK_n (qai ?_)
      refine qan [0, 1, 5, 6, 7, 8, 9] ?_
      simp only [o26_18, qar, qah, bin_add, qaj, qag, qad, qaf, qae, qab, qaa, qac, Nat.reduceEqDiff, ↓reduceIte, eq_self, e0, e1, e5, e6, e7, e8, e9, qam (n := (j : Int) + 1) (by omega) (by omega)]
      clear e0 e1 e5 e6 e7 e8 e9
      intro fr e0 e1 e5 e6 e7 e8 e9
      exact LoopK_n (m' := m - 1) (by omega) (next true _ _ (fun _ => rfl) (fun _ _ => rfl) e0 e1 e5 e6 e7 e8 (by rw [e9]; rfl) H2)
    | false =>
      rw [h1] at L2
      cases h2 : f' k with
      | false =>
        rw [h2] at L3
        obtain ⟨s2, st, H2⟩ := H.store (k := j) (x := .bool false) (by rw [seenV_len]; exact hj1) rfl
        rw [seenV_set] at H2
        refine W_draw0 [0, 1, 5, 6, 7, 8, 9] rfl ?_
        simp only [d26_17, WD_addrSl, WD_load, WD_move, WD_pick, pick_b, WD_store, want_v, wantB_t, wantB_f, WD_nil, qal, qas, DActK_some, pastR_nil, preHead_nil, preHead_cons, qaq, qap, qao, Nat.testBit, Nat.reduceShiftRight, Nat.reduceAnd, Nat.reduceBneDiff, List.all_nil, List.all_cons, List.filter_nil, List.filter_cons, sameO_bool, qad, puT_none, qaf, qae, qab, qaa, qac, Nat.reduceEqDiff, Nat.reduceAdd, ↓reduceIte, Bool.not_true, Bool.not_false, Bool.and_true, Bool.or_true, eq_self, Bool.false_eq_true, true_and, Nat.zero_add, e0, e1, e5, e6, e7, e8, e9, WD_yes, WD_no_move, WD_no_addrSl, WD_no_load, WD_no_call, A2, L2, A3, L3, st]
        clear e0 e1 e5 e6 e7 e8 e9
        intro fr e0 e1 e5 e6 e7 e8 e9
        refine BlkK_n (qai ?_)
        refine qan [0, 1, 5, 6, 7, 8, 9] ?_
        simp only [o26_18, qar, qah, bin_add, qaj, qag, qad, qaf, qae, qab, qaa, qac, Nat.reduceEqDiff, ↓reduceIte, eq_self, e0, e1, e5, e6, e7, e8, e9, qam (n := (j : Int) + 1) (by omega) (by omega)]
        clear e0 e1 e5 e6 e7 e8 e9
        intro fr e0 e1 e5 e6 e7 e8 e9
        exact LoopK_n (m' := m - 1) (by omega) (next false _ _ (fun h => by rw [h1] at h; cases h) (fun h _ => by rw [hm1 k hk1 (hm k hk1 h)] at h2; cases h2) e0 e1 e5 e6 e7 e8 (by rw [e9]; rfl) H2)
      | true =>
        rw [h2] at L3
        have hy := List.getElem?_eq_getElem hk1
        have hz := List.getElem?_eq_getElem hj1
        have sy := hsm _ (List.getElem_mem hk1)
        have sz := hsm _ (List.getElem_mem hj1)
        generalize r[k] = y at hy sy
        generalize r[j] = z at hz sz
        have A4 := sr.addr (kk := .i64) (i := ((k : Nat) : Int)) rfl hk1
        have A5 := sr.addr (kk := .i64) (i := ((j : Nat) : Int)) rfl hj1
        have L4 := row_ld sr hsm hy
        have L5 := row_ld sr hsm hz
        refine W_draw0 [0, 1, 5, 6, 7, 8, 9] rfl ?_
        simp only [d26_17, WD_addrSl, WD_load, WD_move, want_v, wantB_t, wantB_f, qal, qas, pastR_nil, qaq, qao, qad, qaf, List.map_cons, List.map_nil, Nat.reduceEqDiff, Nat.reduceAdd, ↓reduceIte, Bool.not_false, eq_self, true_and, Nat.zero_add, e0, e1, e5, e6, e8, e9, WD_callN, WD_yes, A2, L2, A3, L3, A1, L1, A4, A5, L4, L5]
        refine DCallK_of rfl (run28i hX ho hn sy sz) ?_
        rintro _ s2 ⟨rfl, hs2⟩
        obtain ⟨s3, st, H3⟩ := (H.keep hs2).store (k := j) (x := .bool (nextB (toS y) (toS z) n)) (by rw [seenV_len]; exact hj1) rfl
        rw [seenV_set] at H3
        have L1' : loadV s2 none (elP gv i) = some rv := (sg.same hs2 (fun _ _ h => h)).load hcs
        have L2' := (ss.same hs2 (fun _ _ h => h)).load (seenV_at f' hj1)
        have L3' := (ss.same hs2 (fun _ _ h => h)).load (seenV_at f' hk1)
        have L4' := row_ld (sr.same hs2 (fun _ _ h => h)) hsm hy
        have L5' := row_ld (sr.same hs2 (fun _ _ h => h)) hsm hz
        rw [h1] at L2'
        rw [h2] at L3'
        simp only [WD_addrSl, WD_pick, pick_b, WD_store, want_v, wantB_f, WD_nil, qal, DActK_some, preHead_cons, qaq, qap, qao, Nat.testBit, Nat.reduceShiftRight, Nat.reduceAnd, Nat.reduceBneDiff, List.all_nil, List.all_cons, List.filter_nil, List.filter_cons, sameO_bool, qad, puT_none, qaf, qae, qab, qaa, qac, Nat.reduceEqDiff, Nat.reduceAdd, ↓reduceIte, Bool.not_true, Bool.not_false, Bool.and_true, Bool.or_true, Bool.true_or, eq_self, Bool.false_eq_true, true_and, e0, e1, e5, e6, e7, e8, e9, WD_yes, A2, L2', L3', L1', L4', L5', st]
        clear e0 e1 e5 e6 e7 e8 e9
        intro fr e0 e1 e5 e6 e7 e8 e9
        refine BlkK_n (qai ?_)
        refine qan [0, 1, 5, 6, 7, 8, 9] ?_
        simp only [o26_18, qar, qah, bin_add, qaj, qag, qad, qaf, qae, qab, qaa, qac, Nat.reduceEqDiff, ↓reduceIte, eq_self, e0, e1, e5, e6, e7, e8, e9, qam (n := (j : Int) + 1) (by omega) (by omega)]
        clear e0 e1 e5 e6 e7 e8 e9
        intro fr e0 e1 e5 e6 e7 e8 e9
        refine LoopK_n (m' := m - 1) (by omega) (next _ _ _ (fun h => by rw [h1] at h; cases h) (fun _ hx => ?_) e0 e1 e5 e6 e7 e8 (by rw [e9]; rfl) H3)
        obtain ⟨y', z', h3, h4, h5⟩ := hx
        rw [hy] at h3; cases h3
        rw [hz] at h4; cases h4
        exact (next_adj hn sy sz).2 h5
  · have hjj : j = r.length := by omega
    subst hjj
    exact LoopK_x (BlkK_e (hQ _ _ f' e0 e1 e5 e6 e7 e8 hm1 hd H))
end Go.Proofs.Ytpphomoijlilfaa.G

/- Peaks: groups as they are to be: walked whole. -/
namespace Go.Proofs.Ytpphomoijlilfaa.G
open Go Go.Vam Go.Hang
set_option maxHeartbeats 4000000 in
theorem loop26b {X : Ctx} (hX : X.fns = fnsOf Try.prog) (ho : ∀ f args, f ≠ 15 ∧ f ≠ 38 → X.orc f args = none) {fr : Fr} {s0 s : Mm} {l : List HP} {gv rv sv : Value} {cs : List Value} {ng n i t : Nat} {r : List SpI} {f0 : Nat → Bool} {Q : AExit → Fr → Mm → Prop} (hn : n ≤ 20)
    (hi : i < ng) (hng : ng ≤ 80) (hcs : cs[i]? = some rv) (hrl : r.length ≤ 80) (hsm : ∀ x ∈ r, smI n x)
    (hgm : HP.own 1 gv ng cs ∈ l) (hrm : HP.own 3 rv r.length (r.flatMap eI) ∈ l)
    (e0 : geT fr 0 = gv) (e1 : geT fr 1 = .int .i64 (n : Nat)) (e5 : geT fr 5 = .int .i64 (i : Nat)) (e6 : geT fr 6 = sv) (e7 : geT fr 7 = .int .i64 (t : Nat)) (e8 : geT fr 8 = .int .i64 0)
    (H : Hold s0 s (HP.own 1 sv r.length (seenV r.length f0) :: l))
    (hQ : ∀ fr s f', geT fr 0 = gv → geT fr 1 = .int .i64 (n : Nat) → geT fr 5 = .int .i64 (i : Nat) → geT fr 6 = sv → geT fr 7 = .int .i64 (t : Nat) →
      (∀ i, i < r.length → f0 i = true → f' i = true) → (∀ k j, k < r.length → j < r.length → f0 k = true → nxI n r k j → f' j = true) → Hold s0 s (HP.own 1 sv r.length (seenV r.length f') :: l) → Q .normal fr s) :
    W X (.block 4 (.loop b26_12)) fr s Q := by
  refine qat (W_loop (fun m fr s1 => ∃ (k : Nat) (f : Nat → Bool), k + m = r.length ∧ (∀ i, i < r.length → f0 i = true → f i = true) ∧ (∀ k' j, k' < k → j < r.length → f0 k' = true → nxI n r k' j → f j = true) ∧
    geT fr 0 = gv ∧ geT fr 1 = .int .i64 (n : Nat) ∧ geT fr 5 = .int .i64 (i : Nat) ∧ geT fr 6 = sv ∧ geT fr 7 = .int .i64 (t : Nat) ∧ geT fr 8 = .int .i64 (k : Nat) ∧
    Hold s0 s1 (HP.own 1 sv r.length (seenV r.length f) :: l)) r.length ⟨0, f0, by omega, fun _ _ h => h, fun k _ h => absurd h (Nat.not_lt_zero k), e0, e1, e5, e6, e7, e8, H⟩ ?_)
  clear e0 e1 e5 e6 e7 e8 fr H s
  rintro m fr s1 ⟨k, f, hk, hm, hd, e0, e1, e5, e6, e7, e8, H⟩
  have sg := (H.own (sz := 1) (v := gv) (n := ng) (cs := cs) (by simp [hgm])).slc
  have sr := (H.own (sz := 3) (v := rv) (n := r.length) (cs := r.flatMap eI) (by simp [hrm])).slc
  have A1 := sg.addr (kk := .i64) (i := ((i : Nat) : Int)) rfl hi
  rw [Nat.mul_one] at A1
  have L1 : loadV s1 none (elP gv i) = some rv := sg.load hcs
  refine W_assoc ?_
  refine qak (qan [0, 1, 5, 6, 7, 8, 67] ?_)
  simp only [o26_13, WO_addrSl, qar, WO_bu, WO_load, qah, bin_lss, qaj, qag, qad, qaf, qab, qaa, qac, List.map_cons, List.map_nil, Nat.reduceEqDiff, ↓reduceIte, eq_self, e0, e1, e5, e6, e7, e8, A1, L1, sr.len]
  clear e0 e1 e5 e6 e7 e8
  intro fr e0 e1 e5 e6 e7 e8 e67
  refine qai ?_
  refine W_while e67 (fun hlt => ?_) (fun hlt => ?_)
  · have hk1 : k < r.length := by omega
    refine qak (qat ?_)
    refine qak (qan [0, 1, 5, 6, 7, 8, 9] ?_)
    simp only [o26_14, qah, qaj, qad, qae, qab, qaa, qac, Nat.reduceEqDiff, ↓reduceIte, eq_self, e0, e1, e5, e6, e7, e8]
    clear e0 e1 e5 e6 e7 e8 e67
    intro fr e0 e1 e5 e6 e7 e8 e9
    refine qai ?_
    refine loop26c hX ho hn hi hng hcs hrl hsm hk1 hm hgm hrm e0 e1 e5 e6 e7 e8 e9 H ?_
    clear e0 e1 e5 e6 e7 e8 e9 fr H sg sr A1 L1 s1
    intro fr s1 f' e0 e1 e5 e6 e7 e8 hm2 hd2 H
    refine BlkK_n (qai ?_)
    refine qan [0, 1, 5, 6, 7, 8] ?_
    simp only [o26_19, qar, qah, bin_add, qaj, qag, qad, qaf, qae, qab, qaa, qac, Nat.reduceEqDiff, ↓reduceIte, eq_self, e0, e1, e5, e6, e7, e8, qam (n := (k : Int) + 1) (by omega) (by omega)]
    clear e0 e1 e5 e6 e7 e8
    intro fr e0 e1 e5 e6 e7 e8
    refine LoopK_n (m' := m - 1) (by omega) ⟨k + 1, f', by omega, fun i hi h => hm2 i hi (hm i hi h), fun k' j hk' hj h hx => ?_, e0, e1, e5, e6, e7, by rw [e8]; rfl, H⟩
    by_cases e : k' = k
    · subst e; exact hd2 j hj h hx
    · exact hm2 j hj (hd k' j (by omega) hj h hx)
  · have hkk : k = r.length := by omega
    subst hkk
    exact LoopK_x (BlkK_e (hQ _ _ f e0 e1 e5 e6 e7 hm hd H))
set_option maxHeartbeats 4000000 in
theorem loop26a {X : Ctx} (hX : X.fns = fnsOf Try.prog) (ho : ∀ f args, f ≠ 15 ∧ f ≠ 38 → X.orc f args = none) {fr : Fr} {s0 s : Mm} {l : List HP} {gv rv sv : Value} {cs : List Value} {ng n i : Nat} {r : List SpI} {f0 : Nat → Bool} {Q : AExit → Fr → Mm → Prop} (hn : n ≤ 20)
    (hi : i < ng) (hng : ng ≤ 80) (hcs : cs[i]? = some rv) (hrl : r.length ≤ 80) (hsm : ∀ x ∈ r, smI n x) (h0 : f0 0 = true) (hch : ∀ i, i < r.length → Hang.Reach (List.range r.length) (nxI n r) 0 i)
    (hgm : HP.own 1 gv ng cs ∈ l) (hrm : HP.own 3 rv r.length (r.flatMap eI) ∈ l)
    (e0 : geT fr 0 = gv) (e1 : geT fr 1 = .int .i64 (n : Nat)) (e5 : geT fr 5 = .int .i64 (i : Nat)) (e6 : geT fr 6 = sv) (e7 : geT fr 7 = .int .i64 0)
    (H : Hold s0 s (HP.own 1 sv r.length (seenV r.length f0) :: l))
    (hQ : ∀ fr s f', geT fr 0 = gv → geT fr 1 = .int .i64 (n : Nat) → geT fr 5 = .int .i64 (i : Nat) → geT fr 6 = sv →
      (∀ i, i < r.length → f' i = true) → Hold s0 s (HP.own 1 sv r.length (seenV r.length f') :: l) → Q .normal fr s) :
    W X (.block 2 (.loop b26_9)) fr s Q := by
  refine qat (W_loop (fun m fr s1 => ∃ (t : Nat) (f : Nat → Bool), t + m = r.length ∧ (∀ i, i < r.length → Lv (nxI n r) r.length t i → f i = true) ∧
    geT fr 0 = gv ∧ geT fr 1 = .int .i64 (n : Nat) ∧ geT fr 5 = .int .i64 (i : Nat) ∧ geT fr 6 = sv ∧ geT fr 7 = .int .i64 (t : Nat) ∧
    Hold s0 s1 (HP.own 1 sv r.length (seenV r.length f) :: l)) r.length ⟨0, f0, by omega, fun i _ h => by have h : i = 0 := h; rw [h]; exact h0, e0, e1, e5, e6, e7, H⟩ ?_)
  clear e0 e1 e5 e6 e7 fr H s
  rintro m fr s1 ⟨t, f, ht, hl, e0, e1, e5, e6, e7, H⟩
  have sg := (H.own (sz := 1) (v := gv) (n := ng) (cs := cs) (by simp [hgm])).slc
  have sr := (H.own (sz := 3) (v := rv) (n := r.length) (cs := r.flatMap eI) (by simp [hrm])).slc
  have A1 := sg.addr (kk := .i64) (i := ((i : Nat) : Int)) rfl hi
  rw [Nat.mul_one] at A1
  have L1 : loadV s1 none (elP gv i) = some rv := sg.load hcs
  refine W_assoc ?_
  refine qak (qan [0, 1, 5, 6, 7, 58] ?_)
  simp only [o26_10, WO_addrSl, qar, WO_bu, WO_load, qah, bin_lss, qaj, qag, qad, qaf, qab, qaa, qac, List.map_cons, List.map_nil, Nat.reduceEqDiff, ↓reduceIte, eq_self, e0, e1, e5, e6, e7, A1, L1, sr.len]
  clear e0 e1 e5 e6 e7
  intro fr e0 e1 e5 e6 e7 e58
  refine qai ?_
  refine W_while e58 (fun hlt => ?_) (fun hlt => ?_)
  · refine qak (qat ?_)
    refine qak (qan [0, 1, 5, 6, 7, 8] ?_)
    simp only [o26_11, qah, qaj, qad, qae, qab, qaa, qac, Nat.reduceEqDiff, ↓reduceIte, eq_self, e0, e1, e5, e6, e7]
    clear e0 e1 e5 e6 e7 e58
    intro fr e0 e1 e5 e6 e7 e8
    refine qai ?_
    refine loop26b hX ho hn hi hng hcs hrl hsm hgm hrm e0 e1 e5 e6 e7 e8 H ?_
    clear e0 e1 e5 e6 e7 e8 fr H sg sr A1 L1 s1
    intro fr s1 f' e0 e1 e5 e6 e7 hm2 hd2 H
    refine BlkK_n (qai ?_)
    refine qan [0, 1, 5, 6, 7] ?_
    simp only [o26_20, qar, qah, bin_add, qaj, qag, qad, qaf, qae, qab, qaa, qac, Nat.reduceEqDiff, ↓reduceIte, eq_self, e0, e1, e5, e6, e7, qam (n := (t : Int) + 1) (by omega) (by omega)]
    clear e0 e1 e5 e6 e7
    intro fr e0 e1 e5 e6 e7
    refine LoopK_n (m' := m - 1) (by omega) ⟨t + 1, f', by omega, fun i hi h => ?_, e0, e1, e5, e6, by rw [e7]; rfl, H⟩
    rcases h with h | ⟨k, hk, h, hx⟩
    · exact hm2 i hi (hl i hi h)
    · exact hd2 k i hk hi (hl k hk h) hx
  · have htt : t = r.length := by omega
    subst htt
    exact LoopK_x (BlkK_e (hQ _ _ f e0 e1 e5 e6 (fun i hi => hl i hi (Lv.full hch i hi)) H))
set_option maxHeartbeats 4000000 in
theorem loop26d {X : Ctx} (hX : X.fns = fnsOf Try.prog) (ho : ∀ f args, f ≠ 15 ∧ f ≠ 38 → X.orc f args = none) {fr : Fr} {s0 s : Mm} {l : List HP} {gv rv sv : Value} {cs : List Value} {ng n i : Nat} {r : List SpI} {f : Nat → Bool} {Q : AExit → Fr → Mm → Prop}
    (hi : i < ng) (hcs : cs[i]? = some rv) (hrl : r.length ≤ 80) (hsm : ∀ x ∈ r, smI n x) (hf : ∀ i, i < r.length → f i = true) (hs : r.Pairwise ltI)
    (hgm : HP.own 1 gv ng cs ∈ l) (hrm : HP.own 3 rv r.length (r.flatMap eI) ∈ l) (hsv : HP.own 1 sv r.length (seenV r.length f) ∈ l)
    (e0 : geT fr 0 = gv) (e1 : geT fr 1 = .int .i64 (n : Nat)) (e5 : geT fr 5 = .int .i64 (i : Nat)) (e6 : geT fr 6 = sv) (e10 : geT fr 10 = .int .i64 0)
    (H : Hold s0 s l)
    (hQ : ∀ fr s, geT fr 0 = gv → geT fr 1 = .int .i64 (n : Nat) → geT fr 5 = .int .i64 (i : Nat) → Hold s0 s l → Q .normal fr s) :
    W X (.block 8 (.loop b26_22)) fr s Q := by
  refine qat (W_loop (fun m fr s1 => ∃ (k : Nat), k + m = r.length ∧
    geT fr 0 = gv ∧ geT fr 1 = .int .i64 (n : Nat) ∧ geT fr 5 = .int .i64 (i : Nat) ∧ geT fr 6 = sv ∧ geT fr 10 = .int .i64 (k : Nat) ∧
    Hold s0 s1 l) r.length ⟨0, by omega, e0, e1, e5, e6, e10, H⟩ ?_)
  clear e0 e1 e5 e6 e10 fr H s
  rintro m fr s1 ⟨k, hk, e0, e1, e5, e6, e10, H⟩
  have sg := (H.own (sz := 1) (v := gv) (n := ng) (cs := cs) (by simp [hgm])).slc
  have sr := (H.own (sz := 3) (v := rv) (n := r.length) (cs := r.flatMap eI) (by simp [hrm])).slc
  have ss := (H.own (sz := 1) (v := sv) (n := r.length) (cs := seenV r.length f) (by simp [hsv])).slc
  have A1 := sg.addr (kk := .i64) (i := ((i : Nat) : Int)) rfl hi
  rw [Nat.mul_one] at A1
  have L1 : loadV s1 none (elP gv i) = some rv := sg.load hcs
  refine W_assoc ?_
  refine qak (qan [0, 1, 5, 6, 10, 116] ?_)
  simp only [o26_23, WO_addrSl, qar, WO_bu, WO_load, qah, bin_lss, qaj, qag, qad, qaf, qab, qaa, qac, List.map_cons, List.map_nil, Nat.reduceEqDiff, ↓reduceIte, eq_self, e0, e1, e5, e6, e10, A1, L1, sr.len]
  clear e0 e1 e5 e6 e10
  intro fr e0 e1 e5 e6 e10 e116
  refine qai ?_
  refine W_while e116 (fun hlt => ?_) (fun hlt => ?_)
  · have hk1 : k < r.length := by omega
    have A2 := ss.addr (kk := .i64) (i := ((k : Nat) : Int)) rfl hk1
    rw [Nat.mul_one] at A2
    have L2 := ss.load (seenV_at f hk1)
    rw [hf k hk1] at L2
    refine qak (qat ?_)
    by_cases hk0 : k = 0
    · have c1 : decide ((0 : Int) < ((k : Nat) : Int)) = false := decide_eq_false (by omega)
      refine qak (W_draw0 [0, 1, 5, 6, 10, 146] rfl ?_)
      simp only [d26_24, WD_addrSl, WD_bin, WD_load, WD_move, WD_pick, pick_b, WD_un, un_not, bin_gtr, want_v, wantB_t, wantB_f, WD_nil, qal, qas, DActK_some, pastR_nil, preHead_nil, qaq, qap, qao, Nat.testBit, Nat.reduceShiftRight, Nat.reduceAnd, Nat.reduceBneDiff, List.all_nil, List.all_cons, List.filter_nil, List.filter_cons, sameO_bool, qad, qaf, qae, qab, qaa, qac, Nat.reduceEqDiff, Nat.reduceAdd, ↓reduceIte, Bool.not_true, Bool.not_false, Bool.and_true, Bool.or_true, eq_self, Bool.false_eq_true, true_and, Nat.zero_add, e0, e1, e5, e6, e10, WD_yes, WD_no_move, WD_no_bin, WD_no_un, WD_no_addrSl, WD_no_load, WD_no_call, A2, L2, c1]
      clear e0 e1 e5 e6 e10
      intro fr e0 e1 e5 e6 e10 e146
      refine qai ?_
      refine W_cond e146 (fun h => by cases h) (fun _ => W_skip (BlkK_n (qai ?_)))
      refine qan [0, 1, 5, 6, 10] ?_
      simp only [o26_26, qar, qah, bin_add, qaj, qag, qad, qaf, qae, qab, qaa, qac, Nat.reduceEqDiff, ↓reduceIte, eq_self, e0, e1, e5, e6, e10, qam (n := (k : Int) + 1) (by omega) (by omega)]
      clear e0 e1 e5 e6 e10 e146
      intro fr e0 e1 e5 e6 e10
      exact LoopK_n (m' := m - 1) (by omega) ⟨k + 1, by omega, e0, e1, e5, e6, by rw [e10]; rfl, H⟩
    · obtain ⟨k', rfl⟩ : ∃ k', k = k' + 1 := ⟨k - 1, by omega⟩
      have c1 : decide ((0 : Int) < ((k' + 1 : Nat) : Int)) = true := decide_eq_true (by omega)
      have ik : ((k' + 1 : Nat) : Int) - 1 = ((k' : Nat) : Int) := by omega
      have hy := List.getElem?_eq_getElem (show k' < r.length by omega)
      have hz := List.getElem?_eq_getElem hk1
      have hlt2 : ltI r[k'] r[k' + 1] := List.pairwise_iff_getElem.1 hs k' (k' + 1) (by omega) hk1 (by omega)
      have ha := ahead_lt (hsm _ (List.mem_of_getElem? hy)) (hsm _ (List.mem_of_getElem? hz)) hlt2
      have A4 := sr.addr (kk := .i64) (i := ((k' : Nat) : Int)) rfl (show k' < r.length by omega)
      have A5 := sr.addr (kk := .i64) (i := ((k' + 1 : Nat) : Int)) rfl hk1
      have L4 := row_ld sr hsm hy
      have L5 := row_ld sr hsm hz
      generalize r[k'] = y at hy hlt2 ha L4
      generalize r[k' + 1] = z at hz hlt2 ha L5
      refine qak (W_draw0 [0, 1, 5, 6, 10, 146] rfl ?_)
      simp only [d26_24, WD_addrSl, WD_bin, WD_load, WD_move, WD_un, un_not, bin_gtr, bin_sub, want_v, wantB_t, wantB_f, qal, qas, pastR_nil, qaq, qao, qad, qaf, qae, List.map_cons, List.map_nil, Nat.reduceEqDiff, Nat.reduceAdd, ↓reduceIte, Bool.not_true, Bool.not_false, eq_self, true_and, Nat.zero_add, e0, e5, e6, e10, WD_callN, WD_yes, A2, L2, c1, A1, L1, ik, qam (n := ((k' : Nat) : Int)) (by omega) (by omega), A4, A5, L4, L5]
      refine DCallK_of rfl (run29 hX ho) ?_
      rintro _ s2 ⟨rfl, hs2⟩
      simp only [WD_pick, pick_b, WD_un, un_not, want_v, wantB_t, wantB_f, WD_nil, qal, qaq, qap, qao, Nat.testBit, Nat.reduceShiftRight, Nat.reduceAnd, Nat.reduceBneDiff, List.all_nil, List.all_cons, List.filter_nil, List.filter_cons, qad, qaf, qae, qab, qaa, qac, Nat.reduceEqDiff, Nat.reduceAdd, ↓reduceIte, Bool.not_true, Bool.not_false, Bool.and_true, Bool.true_or, eq_self, Bool.false_eq_true, true_and, e0, e1, e5, e6, e10, WD_yes, ha]
      clear e0 e1 e5 e6 e10
      intro fr e0 e1 e5 e6 e10 e146
      refine qai ?_
      refine W_cond e146 (fun h => by cases h) (fun _ => W_skip (BlkK_n (qai ?_)))
      refine qan [0, 1, 5, 6, 10] ?_
      simp only [o26_26, qar, qah, bin_add, qaj, qag, qad, qaf, qae, qab, qaa, qac, Nat.reduceEqDiff, ↓reduceIte, eq_self, e0, e1, e5, e6, e10, qam (n := ((k' + 1 : Nat) : Int) + 1) (by omega) (by omega)]
      clear e0 e1 e5 e6 e10 e146
      intro fr e0 e1 e5 e6 e10
      exact LoopK_n (m' := m - 1) (by omega) ⟨k' + 1 + 1, by omega, e0, e1, e5, e6, by rw [e10]; rfl, H.keep hs2⟩
  · exact LoopK_x (BlkK_e (hQ _ _ e0 e1 e5 H))
end Go.Proofs.Ytpphomoijlilfaa.G

/- Peaks: groups as they are to be, asked for: walked. -/
namespace Go.Proofs.Ytpphomoijlilfaa.G
open Go Go.Vam Go.Hang
set_option maxHeartbeats 4000000 in
theorem rest26 {X : Ctx} (hX : X.fns = fnsOf Try.prog) (ho : ∀ f args, f ≠ 15 ∧ f ≠ 38 → X.orc f args = none) {fr : Fr} {s0 s : Mm} {l : List HP} {gv rv : Value} {cs : List Value} {ng n i : Nat} {r : List SpI} {Q : AExit → Fr → Mm → Prop} (hn : n ≤ 20)
    (hi : i < ng) (hng : ng ≤ 80) (hcs : cs[i]? = some rv) (hrl : r.length ≤ 80) (hsm : ∀ x ∈ r, smI n x) (hne : 0 < r.length) (hs : r.Pairwise ltI) (hch : ∀ i, i < r.length → Hang.Reach (List.range r.length) (nxI n r) 0 i)
    (hgm : HP.own 1 gv ng cs ∈ l) (hrm : HP.own 3 rv r.length (r.flatMap eI) ∈ l)
    (e0 : geT fr 0 = gv) (e1 : geT fr 1 = .int .i64 (n : Nat)) (e5 : geT fr 5 = .int .i64 (i : Nat))
    (H : Hold s0 s l)
    (hQ : ∀ fr s, geT fr 0 = gv → geT fr 1 = .int .i64 (n : Nat) → geT fr 5 = .int .i64 (i : Nat) → Hold s0 s l → Q .normal fr s) :
    W X (.seq (.ops o26_6) (.seq (.ops o26_7) (.seq (.seq (.ops o26_8) (.block 2 (.loop b26_9))) (.seq (.ops o26_21) (.block 8 (.loop b26_22)))))) fr s Q := by
  have sg := (H.own (sz := 1) (v := gv) (n := ng) (cs := cs) (by simp [hgm])).slc
  have sr := (H.own (sz := 3) (v := rv) (n := r.length) (cs := r.flatMap eI) (by simp [hrm])).slc
  have A1 := sg.addr (kk := .i64) (i := ((i : Nat) : Int)) rfl hi
  rw [Nat.mul_one] at A1
  have L1 : loadV s none (elP gv i) = some rv := sg.load hcs
  have hmk : makeSlV s 1 [.bool false] (.int .i64 (r.length : Nat)) (.int .i64 (r.length : Nat)) = some (.slice (some ⟨s.nxt, 0, none⟩) r.length r.length, .cells (repZ [.bool false] r.length) false) := makeSl_eq rfl rfl (Nat.le_refl _) (by omega) (by omega)
  have H1 := H.make (sz := 1) (c := r.length) (n := r.length) (z := [.bool false]) rfl (Nat.le_refl _) (by unfold OPEN; omega)
  rw [repZ_1, seenV_false] at H1 hmk
  refine qak (qan [0, 1, 5, 6] ?_)
  simp only [o26_6, WO_addrSl, WO_bu, WO_load, WO_makeSlice, qah, qaj, qag, NewK_some, qad, qaf, qab, qaa, qac, List.map_cons, List.map_nil, Nat.reduceEqDiff, ↓reduceIte, eq_self, e0, e1, e5, A1, L1, sr.len, hmk]
  clear e0 e1 e5
  intro fr e0 e1 e5 e6
  refine qai ?_
  generalize newAt s (.cells (seenV r.length fun _ => false) false) = s1 at H1 ⊢
  generalize Value.slice (some ⟨s.nxt, 0, none⟩) r.length r.length = sv at H1 e6
  have ss := (H1.own (sz := 1) (v := sv) (n := r.length) (cs := seenV r.length fun _ => false) (by simp)).slc
  have A2 := ss.addr (kk := .i64) (i := 0) (k := 0) rfl hne
  rw [Nat.zero_mul] at A2
  obtain ⟨s2, st, H2⟩ := H1.store (k := 0) (x := .bool true) (by rw [seenV_len]; exact hne) rfl
  rw [seenV_set] at H2
  refine qak (qan [0, 1, 5, 6] ?_)
  simp only [o26_7, WO_addrSl, qah, WO_store, qaj, qag, MemK_some, qad, puT_none, qaf, qae, qab, qaa, qac, Nat.reduceEqDiff, ↓reduceIte, eq_self, e0, e1, e5, e6, A2, st]
  clear e0 e1 e5 e6
  intro fr e0 e1 e5 e6
  refine qai ?_
  refine W_assoc ?_
  refine qak (qan [0, 1, 5, 6, 7] ?_)
  simp only [o26_8, qah, qaj, qad, qae, qab, qaa, qac, Nat.reduceEqDiff, ↓reduceIte, eq_self, e0, e1, e5, e6]
  clear e0 e1 e5 e6
  intro fr e0 e1 e5 e6 e7
  refine qai ?_
  refine qak (loop26a hX ho hn hi hng hcs hrl hsm (f0 := updB (fun _ => false) 0 true) rfl hch hgm hrm e0 e1 e5 e6 e7 H2 ?_)
  clear e0 e1 e5 e6 e7 fr H2 H1 H sg sr A1 L1 hmk ss A2 st s s1 s2
  intro fr s f e0 e1 e5 e6 hf H
  refine qai ?_
  refine qak (qan [0, 1, 5, 6, 10] ?_)
  simp only [o26_21, qah, qaj, qad, qae, qab, qaa, qac, Nat.reduceEqDiff, ↓reduceIte, eq_self, e0, e1, e5, e6]
  clear e0 e1 e5 e6
  intro fr e0 e1 e5 e6 e10
  refine qai ?_
  refine loop26d hX ho hi hcs hrl hsm hf hs (by simp [hgm]) (by simp [hrm]) (by simp) e0 e1 e5 e6 e10 H ?_
  clear e0 e1 e5 e6 e10 fr H s
  intro fr s e0 e1 e5 H
  exact hQ _ _ e0 e1 e5 H.tail
set_option maxHeartbeats 4000000 in
theorem run26 {X : Ctx} (hX : X.fns = fnsOf Try.prog) (ho : ∀ f args, f ≠ 15 ∧ f ≠ 38 → X.orc f args = none) {s0 s : Mm} {l : List HP} {gv : Value} {G : Gs} {n : Nat} {L : List SpI} (hF : Few n L) (hP : Parts L (adj n) ltI (G.map (·.2))) (hgl : G.length ≤ 80)
    (hgm : HP.own 1 gv G.length (G.map (·.1)) ∈ l) (hrm : ∀ P ∈ rowsHP G, P ∈ l) (H0 : Hold s0 s l) :
    CallP X 26 [gv, .int .i64 (n : Nat)] s (fun r s' => r = .bool true ∧ Hold s0 s' l) := by
  have hrow : ∀ (i : Nat) (g : Value × List SpI), G[i]? = some g → (G.map (·.2))[i]? = some g.2 ∧ g.2 ∈ G.map (·.2) := fun i g h => by
    have h1 : (G.map (·.2))[i]? = some g.2 := by rw [List.getElem?_map, h]; rfl
    exact ⟨h1, List.mem_of_getElem? h1⟩
  have hsmr : ∀ g ∈ G.map (·.2), ∀ x ∈ g, smI n x := fun g hg x hx => hF.sm x (hP.sub hg hx)
  have hlen : ∀ g ∈ G.map (·.2), g.length ≤ 80 := fun g hg => Nat.le_trans (len_le_of_sub g L (hP.nd ltI_irr hg) fun x hx => hP.sub hg hx) hF.len
  have hpos : ∀ g ∈ G.map (·.2), 0 < g.length := fun g hg => List.length_pos_iff.2 (hP.some g hg)
  refine CallP_of (hX ▸ ir26_eq) (ho _ _ (by decide)) (Nat.le_of_ble_eq_true rfl) ?_
  refine qak (qan [0, 1] ?_)
  simp only [o26_0, qah, qaj, qad, frame_nil, frame_cons, qae, qab, qaa, qac, Nat.reduceEqDiff, Nat.reduceAdd, ↓reduceIte, eq_self, Nat.zero_add]
  intro fr e0 e1
  refine qai ?_
  refine W_assoc ?_
  refine qak (qan [0, 1, 5] ?_)
  simp only [o26_1, qah, qaj, qad, qae, qab, qaa, qac, Nat.reduceEqDiff, ↓reduceIte, eq_self, e0, e1]
  clear e0 e1
  intro fr e0 e1 e5
  refine qai ?_
  refine qak (qat (W_loop (fun m fr s1 => ∃ (i : Nat), i + m = G.length ∧ geT fr 0 = gv ∧ geT fr 1 = .int .i64 (n : Nat) ∧ geT fr 5 = .int .i64 (i : Nat) ∧ Hold s0 s1 l) G.length ⟨0, by omega, e0, e1, e5, H0⟩ ?_))
  clear e0 e1 e5 fr H0 s
  rintro m fr s ⟨i, hi, e0, e1, e5, H⟩
  have sg := (H.own hgm).slc
  refine W_assoc ?_
  refine qak (qan [0, 1, 5, 14] ?_)
  simp only [o26_3, qar, WO_bu, qah, bin_lss, qaj, qag, qad, qaf, qab, qaa, qac, List.map_cons, List.map_nil, Nat.reduceEqDiff, ↓reduceIte, eq_self, e0, e1, e5, sg.len]
  clear e0 e1 e5
  intro fr e0 e1 e5 e14
  refine qai ?_
  refine W_while e14 (fun hlt => ?_) (fun hlt => ?_)
  · have hi1 : i < G.length := by omega
    have hg := List.getElem?_eq_getElem hi1
    generalize G[i] = g at hg
    obtain ⟨hR, hRm⟩ := hrow i g hg
    have hrl := hlen _ hRm
    have hne := hpos _ hRm
    have hsm := hsmr _ hRm
    have hgo : HP.own 3 g.1 g.2.length (g.2.flatMap eI) ∈ l := hrm _ (List.mem_map.2 ⟨g, List.mem_of_getElem? hg, rfl⟩)
    have sr := (H.own hgo).slc
    have A1 := sg.addr (kk := .i64) (i := ((i : Nat) : Int)) rfl hi1
    rw [Nat.mul_one] at A1
    have hcs : (G.map (·.1))[i]? = some g.1 := by rw [List.getElem?_map, hg]; rfl
    have L1 : loadV s none (elP gv i) = some g.1 := sg.load hcs
    have c0 : decide (((g.2.length : Nat) : Int) = 0) = false := decide_eq_false (by omega)
    have hx := List.getElem?_eq_getElem hne
    have hch := hP.chain ltI_irr hRm hx
    refine qak (qat ?_)
    refine W_assoc ?_
    by_cases hi0 : i = 0
    · have c1 : decide ((0 : Int) < ((i : Nat) : Int)) = false := decide_eq_false (by omega)
      refine qak (W_draw0 [0, 1, 5, 43] rfl ?_)
      simp only [d26_4, WD_addrSl, WD_bin, WD_bu, WD_load, WD_move, WD_pick, pick_b, bin_eql, bin_gtr, want_v, wantB_t, wantB_f, WD_nil, qal, qas, DActK_some, pastR_nil, preHead_nil, qaq, qap, qao, Nat.testBit, Nat.reduceShiftRight, Nat.reduceAnd, Nat.reduceBneDiff, List.all_nil, List.all_cons, List.filter_nil, List.filter_cons, qad, qaf, qae, qab, qaa, qac, List.map_cons, List.map_nil, Nat.reduceEqDiff, Nat.reduceAdd, ↓reduceIte, Bool.not_true, Bool.not_false, Bool.and_true, Bool.true_or, eq_self, Bool.false_eq_true, true_and, Nat.zero_add, e0, e1, e5, WD_yes, WD_no_move, WD_no_bin, WD_no_un, WD_no_addrSl, WD_no_load, WD_no_call, A1, L1, sr.len, c0, c1]
      clear e0 e1 e5
      intro fr e0 e1 e5 e43
      refine qai ?_
      refine qak (W_cond e43 (fun h => by cases h) (fun _ => W_skip (qai ?_)))
      refine rest26 hX ho hF.hn hi1 hgl hcs hrl hsm hne (hP.sort _ hRm) hch hgm hgo e0 e1 e5 H ?_
      clear e0 e1 e5 e43 fr H sg sr A1 L1 s
      intro fr s e0 e1 e5 H
      refine BlkK_n (qai ?_)
      refine qan [0, 1, 5] ?_
      simp only [o26_27, qar, qah, bin_add, qaj, qag, qad, qaf, qae, qab, qaa, qac, Nat.reduceEqDiff, ↓reduceIte, eq_self, e0, e1, e5, qam (n := (i : Int) + 1) (by omega) (by omega)]
      clear e0 e1 e5
      intro fr e0 e1 e5
      exact LoopK_n (m' := m - 1) (by omega) ⟨i + 1, by omega, e0, e1, by rw [e5]; rfl, H⟩
    · obtain ⟨i', rfl⟩ : ∃ i', i = i' + 1 := ⟨i - 1, by omega⟩
      have c1 : decide ((0 : Int) < ((i' + 1 : Nat) : Int)) = true := decide_eq_true (by omega)
      have ik : ((i' + 1 : Nat) : Int) - 1 = ((i' : Nat) : Int) := by omega
      have hi2 : i' < G.length := by omega
      have hg' := List.getElem?_eq_getElem hi2
      generalize G[i'] = g' at hg'
      obtain ⟨hR', hRm'⟩ := hrow i' g' hg'
      have hne' := hpos _ hRm'
      have hx' := List.getElem?_eq_getElem hne'
      have sr' := (H.own (hrm _ (List.mem_map.2 ⟨g', List.mem_of_getElem? hg', rfl⟩) : HP.own 3 g'.1 g'.2.length (g'.2.flatMap eI) ∈ l)).slc
      have hlt2 := head_lt hP.order hR' hR hx' hx
      have ha := ahead_lt (hsmr _ hRm' _ (List.mem_of_getElem? hx')) (hsm _ (List.mem_of_getElem? hx)) hlt2
      have B1 := sg.addr (kk := .i64) (i := ((i' : Nat) : Int)) rfl hi2
      rw [Nat.mul_one] at B1
      have M1 : loadV s none (elP gv i') = some g'.1 := sg.load (by rw [List.getElem?_map, hg']; rfl)
      have A4 := sr'.addr (kk := .i64) (i := 0) (k := 0) rfl hne'
      have A5 := sr.addr (kk := .i64) (i := 0) (k := 0) rfl hne
      have L4 := row_ld sr' (hsmr _ hRm') hx'
      have L5 := row_ld sr hsm hx
      rw [Nat.zero_mul] at A4 A5 L4 L5
      refine qak (W_draw0 [0, 1, 5, 43] rfl ?_)
      simp only [d26_4, WD_addrSl, WD_bin, WD_bu, WD_load, WD_move, bin_eql, bin_gtr, bin_sub, want_v, wantB_t, wantB_f, qal, qas, pastR_nil, qaq, qao, qad, qaf, qae, List.map_cons, List.map_nil, Nat.reduceEqDiff, Nat.reduceAdd, ↓reduceIte, Bool.not_false, eq_self, true_and, Nat.zero_add, e0, e5, WD_callN, WD_yes, A1, L1, sr.len, c0, c1, ik, qam (n := ((i' : Nat) : Int)) (by omega) (by omega), B1, M1, A4, A5, L4, L5]
      refine DCallK_of rfl (run29 hX ho) ?_
      rintro _ s2 ⟨rfl, hs2⟩
      simp only [WD_pick, pick_b, WD_un, un_not, want_v, wantB_t, wantB_f, WD_nil, qal, qaq, qap, qao, Nat.testBit, Nat.reduceShiftRight, Nat.reduceAnd, Nat.reduceBneDiff, List.all_nil, List.all_cons, List.filter_nil, List.filter_cons, qad, qaf, qae, qab, qaa, qac, Nat.reduceEqDiff, Nat.reduceAdd, ↓reduceIte, Bool.not_true, Bool.not_false, Bool.and_true, Bool.true_or, eq_self, Bool.false_eq_true, true_and, e0, e1, e5, WD_yes, ha]
      clear e0 e1 e5
      intro fr e0 e1 e5 e43
      refine qai ?_
      refine qak (W_cond e43 (fun h => by cases h) (fun _ => W_skip (qai ?_)))
      refine rest26 hX ho hF.hn hi1 hgl hcs hrl hsm hne (hP.sort _ hRm) hch hgm hgo e0 e1 e5 (H.keep hs2) ?_
      clear e0 e1 e5 e43 fr H sg sr A1 L1 sr' B1 M1 A4 A5 L4 L5 hs2 s s2
      intro fr s e0 e1 e5 H
      refine BlkK_n (qai ?_)
      refine qan [0, 1, 5] ?_
      simp only [o26_27, qar, qah, bin_add, qaj, qag, qad, qaf, qae, qab, qaa, qac, Nat.reduceEqDiff, ↓reduceIte, eq_self, e0, e1, e5, qam (n := ((i' + 1 : Nat) : Int) + 1) (by omega) (by omega)]
      clear e0 e1 e5
      intro fr e0 e1 e5
      exact LoopK_n (m' := m - 1) (by omega) ⟨i' + 1 + 1, by omega, e0, e1, by rw [e5]; rfl, H⟩
  · refine LoopK_x (BlkK_e (qai ?_))
    refine qak (qan [4] ?_)
    simp only [o26_28, qah, qaj, qad, qae, qab, qaa, qac, ↓reduceIte, eq_self]
    clear e0 e1 e5 e14
    intro fr e4
    refine qai ?_
    exact W_ret (Ret1 e4 ⟨rfl, H⟩)
end Go.Proofs.Ytpphomoijlilfaa.G

/- Peaks: spots brought into a small map, one of each cell: walked. -/
namespace Go.Proofs.Ytpphomoijlilfaa.G
open Go Go.Vam Go.Hang
def inI (n : Nat) (x : SpI) : SpI := ((x.1.tmod n + n).tmod n, (x.2.1.tmod 12 + 12).tmod 12, x.2.2)
theorem tmod_in (a : Int) {n : Int} (hn : 0 < n) : (0 < a.tmod n + n ∧ a.tmod n + n < 2 * n) ∧ 0 ≤ (a.tmod n + n).tmod n ∧ (a.tmod n + n).tmod n < n := by
  have h1 := Int.tmod_lt_of_pos a hn
  have h2 := Int.lt_tmod_of_pos a hn
  exact ⟨⟨by omega, by omega⟩, Int.tmod_nonneg _ (by omega), Int.tmod_lt_of_pos _ hn⟩
theorem inI_sm {n : Nat} (hn : 1 ≤ n) (x : SpI) : smI n (inI n x) := by
  have h1 := tmod_in x.1 (n := (n : Int)) (by omega)
  have h2 := tmod_in x.2.1 (n := 12) (by omega)
  exact ⟨h1.2, h2.2⟩
def metB (out : List SpI) (x : SpI) (k : Nat) : Bool := (out.take k).any fun y => decide (y.1 = x.1) && decide (y.2.1 = x.2.1)
theorem metB_succ {out : List SpI} {x : SpI} {k : Nat} (hk : k < out.length) : metB out x (k + 1) = (metB out x k || (decide ((atI out k).1 = x.1) && decide ((atI out k).2.1 = x.2.1))) := by
  unfold metB
  rw [List.take_add_one, List.getElem?_eq_getElem hk, List.any_append, atI_eq hk]
  simp
theorem metB_all {out : List SpI} {x : SpI} (h : metB out x out.length = false) : ∀ y ∈ out, cellI y ≠ cellI x := by
  intro y hy e
  unfold metB at h
  rw [List.take_length, List.any_eq_false] at h
  refine h y hy ?_
  have e1 : y.1 = x.1 := (Prod.mk.inj e).1
  have e2 : y.2.1 = x.2.1 := (Prod.mk.inj e).2
  simp [e1, e2]
theorem Few.add {n : Nat} {out : List SpI} {x : SpI} (h : Few n out) (hx : smI n x) (hm : metB out x out.length = false) (hl : out.length < 80) : Few n (out ++ [x]) := by
  refine ⟨h.hn, fun y hy => ?_, ?_, by rw [List.length_append]; simp only [List.length_cons, List.length_nil]; omega⟩
  · rcases List.mem_append.1 hy with hy | hy
    · exact h.sm y hy
    · simp at hy; subst hy; exact hx
  · rw [List.map_append, List.nodup_append]
    refine ⟨h.one, by simp, fun a ha b hb => ?_⟩
    obtain ⟨y, hy, rfl⟩ := List.mem_map.1 ha
    simp at hb; subst hb
    exact metB_all hm y hy
set_option maxHeartbeats 4000000 in
theorem loop25b {X : Ctx} (hX : X.fns = fnsOf Try.prog) (ho : ∀ f args, f ≠ 15 ∧ f ≠ 38 → X.orc f args = none) {fr : Fr} {s0 s : Mm} {l : List HP} {v ov : Value} {n Bx i : Nat} {out : List SpI} {x : SpI} {Q : AExit → Fr → Mm → Prop} (hol : out.length ≤ 80)
    (e0 : geT fr 0 = v) (e1 : geT fr 1 = .int .i64 (n : Nat)) (e5 : geT fr 5 = ov) (e6 : geT fr 6 = .int .i64 (i : Nat)) (e7 : geT fr 7 = .pointer (some ⟨Bx, 0, none⟩)) (e8 : geT fr 8 = .bool false) (e9 : geT fr 9 = .int .i64 0)
    (H : Hold s0 s (HP.cell Bx (eI x) :: HP.own 3 ov out.length (out.flatMap eI) :: l))
    (hQ : ∀ fr, geT fr 0 = v → geT fr 1 = .int .i64 (n : Nat) → geT fr 5 = ov → geT fr 6 = .int .i64 (i : Nat) → geT fr 7 = .pointer (some ⟨Bx, 0, none⟩) → geT fr 8 = .bool (metB out x out.length) → Q .normal fr s) :
    W X (.block 2 (.loop b25_8)) fr s Q := by
  have so := (H.own (sz := 3) (v := ov) (n := out.length) (cs := out.flatMap eI) (by simp)).slc
  have hx := H.cell (List.mem_cons_self ..)
  have x0 : loadV s none (.pointer (some ⟨Bx, 0, none⟩)) = some (.int .i64 x.1) := load_g (o := 0) hx
  have x1 : loadV s none (.pointer (some ⟨Bx, 1, none⟩)) = some (.int .i64 x.2.1) := load_g (o := 1) hx
  refine qat (W_loop (fun m fr s1 => ∃ k : Nat, k + m = out.length ∧ s = s1 ∧ geT fr 0 = v ∧ geT fr 1 = .int .i64 (n : Nat) ∧ geT fr 5 = ov ∧ geT fr 6 = .int .i64 (i : Nat) ∧ geT fr 7 = .pointer (some ⟨Bx, 0, none⟩) ∧ geT fr 8 = .bool (metB out x k) ∧ geT fr 9 = .int .i64 (k : Nat)) out.length ⟨0, by omega, rfl, e0, e1, e5, e6, e7, by rw [e8]; rfl, e9⟩ ?_)
  clear e0 e1 e5 e6 e7 e8 e9 fr
  rintro m fr _ ⟨k, hk, rfl, e0, e1, e5, e6, e7, e8, e9⟩
  refine W_assoc ?_
  refine qak (qan [0, 1, 5, 6, 7, 8, 9, 48] ?_)
  simp only [o25_9, qar, WO_bu, qah, bin_lss, qaj, qag, qad, qaf, qab, qaa, qac, List.map_cons, List.map_nil, Nat.reduceEqDiff, ↓reduceIte, eq_self, e0, e1, e5, e6, e7, e8, e9, so.len]
  clear e0 e1 e5 e6 e7 e8 e9
  intro fr e0 e1 e5 e6 e7 e8 e9 e48
  refine qai ?_
  refine W_while e48 (fun hlt => ?_) (fun hlt => ?_)
  · have hk1 : k < out.length := by omega
    obtain ⟨f0, f1, -, -⟩ := flatI hk1
    have hs := metB_succ (x := x) hk1
    generalize atI out k = y at f0 f1 hs
    have A2 := so.addr (kk := .i64) (i := ((k : Nat) : Int)) rfl hk1
    have p0 := so.fld (by omega) (k * 3) 0
    have p1 := so.fld (by omega) (k * 3) 1
    rw [Nat.add_zero] at p0
    have l0 := so.load f0
    have l1 := so.load f1
    refine qak (qat ?_)
    cases hm : metB out x k with
    | true =>
      rw [hm] at hs
      refine W_draw0 [0, 1, 5, 6, 7, 8, 9] rfl ?_
      simp only [d25_10, WD_move, WD_pick, pick_b, want_v, wantB_f, WD_nil, qal, qap, qao, qad, qaf, qae, qab, qaa, qac, Nat.reduceEqDiff, Nat.reduceAdd, ↓reduceIte, Bool.not_true, eq_self, Nat.zero_add, e0, e1, e5, e6, e7, e8, e9, WD_no_move, WD_no_bin, WD_no_addrSl, WD_no_load, WD_no_fieldAddr, WD_no_pick, wantB_u, hm]
      clear e0 e1 e5 e6 e7 e8 e9
      intro fr e0 e1 e5 e6 e7 e8 e9
      refine BlkK_n (qai ?_)
      refine qan [0, 1, 5, 6, 7, 8, 9] ?_
      simp only [o25_11, qar, qah, bin_add, qaj, qag, qad, qaf, qae, qab, qaa, qac, Nat.reduceEqDiff, ↓reduceIte, eq_self, e0, e1, e5, e6, e7, e8, e9, qam (n := (k : Int) + 1) (by omega) (by omega)]
      clear e0 e1 e5 e6 e7 e8 e9
      intro fr e0 e1 e5 e6 e7 e8 e9
      exact LoopK_n (m' := m - 1) (by omega) ⟨k + 1, by omega, rfl, e0, e1, e5, e6, e7, by rw [e8, hs]; rfl, by rw [e9]; rfl⟩
    | false =>
      rw [hm, Bool.false_or] at hs
      cases c0 : decide (y.1 = x.1) with
      | false =>
        rw [c0, Bool.false_and] at hs
        refine W_draw0 [0, 1, 5, 6, 7, 8, 9] rfl ?_
        simp only [d25_10, WD_addrSl, WD_bin, WD_fieldAddr, fieldAddr_p, WD_load, WD_move, WD_pick, pick_b, bin_eql, want_v, wantB_t, wantB_f, WD_nil, qal, qas, pastR_nil, qap, qao, qad, qaf, qae, qab, qaa, qac, Nat.reduceEqDiff, Nat.reduceAdd, ↓reduceIte, Bool.not_false, eq_self, Bool.false_eq_true, true_and, Nat.zero_add, Nat.add_zero, e0, e1, e5, e6, e7, e8, e9, WD_yes, WD_no_move, WD_no_bin, WD_no_addrSl, WD_no_load, WD_no_fieldAddr, hm, A2, p0, l0, x0, c0]
        clear e0 e1 e5 e6 e7 e8 e9
        intro fr e0 e1 e5 e6 e7 e8 e9
        refine BlkK_n (qai ?_)
        refine qan [0, 1, 5, 6, 7, 8, 9] ?_
        simp only [o25_11, qar, qah, bin_add, qaj, qag, qad, qaf, qae, qab, qaa, qac, Nat.reduceEqDiff, ↓reduceIte, eq_self, e0, e1, e5, e6, e7, e8, e9, qam (n := (k : Int) + 1) (by omega) (by omega)]
        clear e0 e1 e5 e6 e7 e8 e9
        intro fr e0 e1 e5 e6 e7 e8 e9
        exact LoopK_n (m' := m - 1) (by omega) ⟨k + 1, by omega, rfl, e0, e1, e5, e6, e7, by rw [e8, hs], by rw [e9]; rfl⟩
      | true =>
        rw [c0, Bool.true_and] at hs
        refine W_draw0 [0, 1, 5, 6, 7, 8, 9] rfl ?_
        simp only [d25_10, WD_addrSl, WD_bin, WD_fieldAddr, fieldAddr_p, WD_load, WD_move, WD_pick, pick_b, bin_eql, want_v, wantB_t, wantB_f, WD_nil, qal, qas, pastR_nil, qap, qao, qad, qaf, qae, qab, qaa, qac, Nat.reduceEqDiff, Nat.reduceAdd, ↓reduceIte, Bool.not_false, eq_self, Bool.false_eq_true, true_and, Nat.zero_add, Nat.add_zero, e0, e1, e5, e6, e7, e8, e9, WD_yes, hm, A2, p0, l0, x0, c0, p1, l1, x1]
        clear e0 e1 e5 e6 e7 e8 e9
        intro fr e0 e1 e5 e6 e7 e8 e9
        refine BlkK_n (qai ?_)
        refine qan [0, 1, 5, 6, 7, 8, 9] ?_
        simp only [o25_11, qar, qah, bin_add, qaj, qag, qad, qaf, qae, qab, qaa, qac, Nat.reduceEqDiff, ↓reduceIte, eq_self, e0, e1, e5, e6, e7, e8, e9, qam (n := (k : Int) + 1) (by omega) (by omega)]
        clear e0 e1 e5 e6 e7 e8 e9
        intro fr e0 e1 e5 e6 e7 e8 e9
        exact LoopK_n (m' := m - 1) (by omega) ⟨k + 1, by omega, rfl, e0, e1, e5, e6, e7, by rw [e8, hs], by rw [e9]; rfl⟩
  · have hkk : k = out.length := by omega
    subst hkk
    exact LoopK_x (BlkK_e (hQ _ e0 e1 e5 e6 e7 e8))
set_option maxHeartbeats 4000000 in
theorem run25 {X : Ctx} (hX : X.fns = fnsOf Try.prog) (ho : ∀ f args, f ≠ 15 ∧ f ≠ 38 → X.orc f args = none) {s0 s : Mm} {l : List HP} {v : Value} {L : List SpI} {n : Nat} (hn : 1 ≤ n ∧ n ≤ 20) (H0 : Hold s0 s l) (a : SlC s 3 v L.length (L.flatMap eI)) :
    CallP X 25 [v, .int .i64 (n : Nat)] s (fun r s' => ∃ out, Few n out ∧ Hold s0 s' (HP.own 3 r out.length (out.flatMap eI) :: l)) := by
  have hB0 : ¬ ((n : Nat) : Int) = 0 := by omega
  have h12 : ¬ (12 : Int) = 0 := by omega
  refine CallP_of (hX ▸ ir25_eq) (ho _ _ (by decide)) (Nat.le_of_ble_eq_true rfl) ?_
  refine qak (qan [0, 1] ?_)
  simp only [o25_0, qah, qaj, qad, frame_nil, frame_cons, qae, qab, qaa, qac, Nat.reduceEqDiff, Nat.reduceAdd, ↓reduceIte, eq_self, Nat.zero_add]
  intro fr e0 e1
  refine qai ?_
  refine qak (qan [0, 1, 5] ?_)
  simp only [o25_1, qah, qaj, qad, qae, qab, qaa, qac, Nat.reduceEqDiff, ↓reduceIte, eq_self, e0, e1]
  clear e0 e1
  intro fr e0 e1 e5
  refine qai ?_
  refine W_assoc ?_
  refine qak (qan [0, 1, 5, 6] ?_)
  simp only [o25_2, qah, qaj, qad, qae, qab, qaa, qac, Nat.reduceEqDiff, ↓reduceIte, eq_self, e0, e1, e5]
  clear e0 e1 e5
  intro fr e0 e1 e5 e6
  refine qai ?_
  refine qak (qat (W_loop (fun m fr s1 => ∃ (i : Nat) (ov : Value) (out : List SpI) (l' : List HP), i + m = 80 ∧ out.length ≤ i ∧ Few n out ∧ geT fr 0 = v ∧ geT fr 1 = .int .i64 (n : Nat) ∧ geT fr 5 = ov ∧ geT fr 6 = .int .i64 (i : Nat) ∧
    Hold s s1 (HP.own 3 ov out.length (out.flatMap eI) :: l')) 80 ⟨0, _, [], [], by omega, by simp, ⟨hn.2, by simp, by simp, by simp⟩, e0, e1, e5, e6, (Hold.refl s).nil 3⟩ ?_))
  clear e0 e1 e5 e6 fr
  rintro m fr s1 ⟨i, ov, out, l', hi, hol, hF, e0, e1, e5, e6, H⟩
  have sa := a.same H.same (fun _ _ h => h)
  refine W_assoc ?_
  by_cases hlt : i < L.length ∧ i < 80
  · obtain ⟨hi1, hi2⟩ := hlt
    have d1 : decide (((i : Nat) : Int) < (L.length : Nat)) = true := decide_eq_true (by omega)
    have d2 : decide (((i : Nat) : Int) < 80) = true := decide_eq_true (by omega)
    refine qak (qan [0, 1, 5, 6, 17] ?_)
    simp only [o25_4, qar, WO_bu, qah, WO_pick, pick_b, bin_lss, qaj, qag, WO_guard, want_v, wantB_t, qad, qaf, qae, qab, qaa, qac, List.map_cons, List.map_nil, Nat.reduceEqDiff, ↓reduceIte, eq_self, e0, e1, e5, e6, sa.len, d1, d2]
    clear e0 e1 e5 e6
    intro fr e0 e1 e5 e6 e17
    refine qai ?_
    refine qak (W_cond e17 (fun _ => W_skip (qai ?_)) (fun h => by cases h))
    refine qak (qat ?_)
    have hw := tmod_in (atI L i).1 (n := (n : Int)) (by omega)
    have hw2 := tmod_in (atI L i).2.1 (n := 12) (by omega)
    have hbu : buildV [.int .i64 0, .int .i64 0, .float .f64 0] [(0, 1, .int .i64 (inI n (atI L i)).1), (1, 1, .int .i64 (inI n (atI L i)).2.1), (2, 1, .float .f64 (inI n (atI L i)).2.2)] = some (sI (inI n (atI L i))) := rfl
    have hx1 : ((atI L i).1.tmod n + n).tmod n = (inI n (atI L i)).1 := rfl
    have hx2 : ((atI L i).2.1.tmod 12 + 12).tmod 12 = (inI n (atI L i)).2.1 := rfl
    have hx3 : (atI L i).2.2 = (inI n (atI L i)).2.2 := rfl
    have hsm := inI_sm hn.1 (atI L i)
    generalize inI n (atI L i) = x at hbu hx1 hx2 hx3 hsm
    have H1 := H.new z3
    have st : storeV (newAt s1 (.cells z3 false)) 3 (.pointer (some ⟨s1.nxt, 0, none⟩)) (sI x) = some (undefV, setBlk (newAt s1 (.cells z3 false)) s1.nxt (.cells (eI x) false)) := store_all (vs := eI x) (H1.cell (List.mem_cons_self ..)) rfl rfl rfl
    have H2 := H1.setc (cs' := eI x)
    have hz : newAt s1 (.cells [.int .i64 0, .int .i64 0, .float .f64 0] false) = newAt s1 (.cells z3 false) := rfl
    refine qak (W_drawM [0, 1, 5, 6, 7] 1 rfl ?_)
    intro s' hh hn' hs'
    have sb := sa.same hs' (fun _ _ h => h)
    obtain ⟨f0, f1, f2, -⟩ := flatI hi1
    have A2 := sb.addr (kk := .i64) (i := ((i : Nat) : Int)) rfl hi1
    have p0 := sb.fld (by omega) (i * 3) 0
    have p1 := sb.fld (by omega) (i * 3) 1
    have p2 := sb.fld (by omega) (i * 3) 2
    rw [Nat.add_zero] at p0
    have l0 := sb.load f0
    have l1 := sb.load f1
    have l2 := sb.load f2
    have sn := setH_new (b := .cells [.int .i64 0, .int .i64 0, .float .f64 0] false) hh hn'
    simp only [d25_5, WD_move, WD_bin, WD_fieldAddr, WD_addrSl, WD_build, WD_load, WD_alloc, WD_store, WD_nil, qal, qas, DActK_some, pastR_nil, preHead_nil, qaq, joinF_cons, qap, qao, Nat.testBit, Nat.reduceShiftRight, Nat.reduceAnd, Nat.reduceBneDiff, List.all_nil, List.all_cons, List.filter_nil, List.filter_cons, qad, puT_none, qaf, qae, qab, qaa, qac, List.map_cons, List.map_nil, Nat.reduceEqDiff, Nat.reduceAdd, ↓reduceIte, bin_add, bin_rem, Bool.not_true, Bool.and_true, Bool.true_or, Int.reduceEq, eq_self, Bool.false_eq_true, true_and, Nat.zero_add, e0, e1, e5, e6, A2, p0, p1, p2, l0, l1, l2, if_neg hB0, qam (n := (atI L i).1.tmod n + n) (by omega) (by omega), qam (n := (atI L i).2.1.tmod 12 + 12) (by omega) (by omega), hx1, hx2, hx3, hbu, sn, hz, st]
    clear e0 e1 e5 e6
    intro fr e0 e1 e5 e6 e7
    refine qai ?_
    clear A2 p0 p1 p2 l0 l1 l2 sn f0 f1 f2 sb hh hn' hs' s' st hz H1 hbu hx1 hx2 hx3
    generalize setBlk (newAt s1 (.cells z3 false)) s1.nxt (.cells (eI x) false) = s2 at H2 ⊢
    generalize s1.nxt = Bx at H2 e7
    refine qak (qan [0, 1, 5, 6, 7, 8] ?_)
    simp only [o25_6, qah, qaj, qad, qae, qab, qaa, qac, Nat.reduceEqDiff, ↓reduceIte, eq_self, e0, e1, e5, e6, e7]
    clear e0 e1 e5 e6 e7
    intro fr e0 e1 e5 e6 e7 e8
    refine qai ?_
    refine W_assoc ?_
    refine qak (qan [0, 1, 5, 6, 7, 8, 9] ?_)
    simp only [o25_7, qah, qaj, qad, qae, qab, qaa, qac, Nat.reduceEqDiff, ↓reduceIte, eq_self, e0, e1, e5, e6, e7, e8]
    clear e0 e1 e5 e6 e7 e8
    intro fr e0 e1 e5 e6 e7 e8 e9
    refine qai ?_
    refine qak (loop25b hX ho (by omega) e0 e1 e5 e6 e7 e8 e9 H2 ?_)
    clear e0 e1 e5 e6 e7 e8 e9 fr
    intro fr e0 e1 e5 e6 e7 e8
    refine qai ?_
    cases hm : metB out x out.length with
    | true =>
      rw [hm] at e8
      refine qak (qan [0, 1, 5, 6, 7, 73] ?_)
      simp only [o25_12, qah, WO_un, un_not, qaj, qag, qad, qaf, qab, qaa, qac, Nat.reduceEqDiff, ↓reduceIte, Bool.not_true, eq_self, e0, e1, e5, e6, e7, e8]
      clear e0 e1 e5 e6 e7 e8
      intro fr e0 e1 e5 e6 e7 e73
      refine qai ?_
      refine W_cond e73 (fun h => by cases h) (fun _ => W_skip (BlkK_n (qai ?_)))
      refine qan [0, 1, 5, 6] ?_
      simp only [o25_14, qar, qah, bin_add, qaj, qag, qad, qaf, qae, qab, qaa, qac, Nat.reduceEqDiff, ↓reduceIte, eq_self, e0, e1, e5, e6, qam (n := (i : Int) + 1) (by omega) (by omega)]
      clear e0 e1 e5 e6 e7 e73
      intro fr e0 e1 e5 e6
      exact LoopK_n (m' := m - 1) (by omega) ⟨i + 1, ov, out, _, by omega, by omega, hF, e0, e1, e5, by rw [e6]; rfl, H2.up1⟩
    | false =>
      rw [hm] at e8
      have lx : loadV s2 (some 3) (.pointer (some ⟨Bx, 0, none⟩)) = some (sI x) := (loadn_all (H2.cell (List.mem_cons_self ..)) rfl).trans rfl
      have hbs : buildSlV s2 3 [.int .i64 0, .int .i64 0, .float .f64 0] 1 [(0, 3, sI x)] = some (.slice (some ⟨s2.nxt, 0, none⟩) 1 1, .cells (eI x) false) := rfl
      obtain ⟨ov', s3, ap, H3⟩ := H2.up1.push (bytes := 24) (new := eI x) rfl rfl (by omega) (by decide) (by omega) (by omega) (by omega)
      refine qak (qan [0, 1, 5, 6, 7, 73] ?_)
      simp only [o25_12, qah, WO_un, un_not, qaj, qag, qad, qaf, qab, qaa, qac, Nat.reduceEqDiff, ↓reduceIte, Bool.not_false, eq_self, e0, e1, e5, e6, e7, e8]
      clear e0 e1 e5 e6 e7 e8
      intro fr e0 e1 e5 e6 e7 e73
      refine qai ?_
      refine W_cond e73 (fun _ => ?_) (fun h => by cases h)
      refine qan [0, 1, 5, 6] ?_
      simp only [o25_13, WO_append, WO_buildSlice, WO_load, qah, qaj, qag, MemK_some, NewK_some, qad, qaf, qab, qaa, qac, List.map_cons, List.map_nil, Nat.reduceEqDiff, ↓reduceIte, eq_self, Nat.zero_mul, e0, e1, e5, e6, e7, lx, hbs, ap]
      clear e0 e1 e5 e6 e7 e73
      intro fr e0 e1 e5 e6
      refine BlkK_n (qai ?_)
      refine qan [0, 1, 5, 6] ?_
      simp only [o25_14, qar, qah, bin_add, qaj, qag, qad, qaf, qae, qab, qaa, qac, Nat.reduceEqDiff, ↓reduceIte, eq_self, e0, e1, e5, e6, qam (n := (i : Int) + 1) (by omega) (by omega)]
      clear e0 e1 e5 e6
      intro fr e0 e1 e5 e6
      refine LoopK_n (m' := m - 1) (by omega) ⟨i + 1, ov', out ++ [x], HP.cell Bx (eI x) :: l', by omega, by simp; omega, hF.add hsm hm (by omega), e0, e1, e5, by rw [e6]; rfl, ?_⟩
      have h1 : (out ++ [x]).flatMap eI = out.flatMap eI ++ eI x := by simp
      rw [h1, List.length_append]
      exact H3
  · have fin : ∀ fr : Fr, geT fr 5 = ov → SeqK X (.seq (.ops o25_15) .ret) (RetK ir25.results fun r s' => ∃ out, Few n out ∧ Hold s0 s' (HP.own 3 r out.length (out.flatMap eI) :: l)) .normal fr s1 := by
      intro fr e5
      refine qai ?_
      refine qak (qan [4] ?_)
      simp only [o25_15, qah, qaj, qad, qaf, qab, qaa, qac, ↓reduceIte, eq_self, e5]
      clear e5
      intro fr e4
      refine qai ?_
      exact W_ret (Ret1 e4 ⟨out, hF, H0.app (l' := [HP.own 3 ov out.length (out.flatMap eI)]) (H.perm (List.Perm.refl _) |>.sub (.cons_cons _ (List.nil_sublist _)))⟩)
    cases h1 : decide (((i : Nat) : Int) < (L.length : Nat)) with
    | false =>
      refine qak (qan [0, 1, 5, 6, 17] ?_)
      simp only [o25_4, qar, WO_bu, qah, WO_pick, pick_b, bin_lss, qaj, qag, WO_guard, want_v, wantB_t, qad, qaf, qae, qab, qaa, qac, List.map_cons, List.map_nil, Nat.reduceEqDiff, ↓reduceIte, eq_self, Bool.false_eq_true, e0, e1, e5, e6, sa.len, h1]
      clear e0 e1 e5 e6
      intro fr e0 e1 e5 e6 e17
      refine qai ?_
      exact qak (W_cond e17 (fun h => by cases h) (fun _ => W_exit (SeqK_x (LoopK_x (BlkK_e (fin _ e5))))))
    | true =>
      have h2 : decide (((i : Nat) : Int) < 80) = false := decide_eq_false (fun h => hlt ⟨by have := of_decide_eq_true h1; omega, by omega⟩)
      refine qak (qan [0, 1, 5, 6, 17] ?_)
      simp only [o25_4, qar, WO_bu, qah, WO_pick, pick_b, bin_lss, qaj, qag, WO_guard, want_v, wantB_t, qad, qaf, qae, qab, qaa, qac, List.map_cons, List.map_nil, Nat.reduceEqDiff, ↓reduceIte, eq_self, e0, e1, e5, e6, sa.len, h1, h2]
      clear e0 e1 e5 e6
      intro fr e0 e1 e5 e6 e17
      refine qai ?_
      exact qak (W_cond e17 (fun h => by cases h) (fun _ => W_exit (SeqK_x (LoopK_x (BlkK_e (fin _ e5))))))
end Go.Proofs.Ytpphomoijlilfaa.G

/- Peaks: the law of parts: its loops walked. -/
namespace Go.Proofs.Ytpphomoijlilfaa.G
open Go Go.Vam Go.Hang
theorem eq_bb (a : Bool) : eqBV true .bool (.bool a) (.bool a) = some (.bool false) := by cases a <;> rfl
theorem groups_le {n : Nat} {L : List SpI} {R : List (List SpI)} (hF : Few n L) (hP : Parts L (adj n) ltI R) : R.length ≤ 80 := by
  refine Nat.le_trans (inj_len R L (fun g x => g ∈ R ∧ x ∈ g) (hP.nodup ltI_irr) (fun g hg => ?_) ?_) hF.len
  · obtain ⟨x, hx⟩ := List.exists_mem_of_ne_nil g (hP.some g hg)
    exact ⟨x, hP.sub hg hx, hg, hx⟩
  · rintro g _ g' _ x ⟨h1, h2⟩ ⟨h3, h4⟩
    exact hP.one ltI_irr ltI_tr h1 h3 h2 h4
theorem group_le {n : Nat} {L : List SpI} {R : List (List SpI)} (hF : Few n L) (hP : Parts L (adj n) ltI R) : ∀ g ∈ R, g.length ≤ 80 := fun g hg => Nat.le_trans (len_le_of_sub g L (hP.nd ltI_irr hg) fun x hx => hP.sub hg hx) hF.len
theorem mem_snd {G : Gs} {g : Value × List SpI} (h : g ∈ G) : g.2 ∈ G.map (·.2) := List.mem_map_of_mem (f := (·.2)) h
theorem snd_get {G : Gs} {i : Nat} {g : Value × List SpI} (h : G[i]? = some g) : (G.map (·.2))[i]? = some g.2 := by rw [List.getElem?_map, h]; rfl
def sumG (R : List (List SpI)) (i : Nat) : Nat := (R.take i).flatten.length
theorem sumG_succ {R : List (List SpI)} {i : Nat} {g : List SpI} (h : R[i]? = some g) : sumG R (i + 1) = sumG R i + g.length := by
  unfold sumG
  rw [List.take_add_one, h]
  simp
theorem sumG_le (R : List (List SpI)) (i : Nat) : sumG R i ≤ R.flatten.length := by
  unfold sumG
  conv => rhs; rw [← List.take_append_drop i R]
  rw [List.flatten_append, List.length_append]
  omega
theorem rot_is {n t : Nat} {x : SpI} (h : smI n x) : (x.1 + (t : Nat)).tmod (n : Nat) = (rotI n t x).1 := by
  have e : x.1 + ((t : Nat) : Int) = ((x.1.toNat + t : Nat) : Int) := by have := h.1.1; omega
  rw [e, ← Int.ofNat_tmod]
  rfl
theorem grpOf {X : Ctx} (hX : X.fns = fnsOf Try.prog) (ho : ∀ f args, f ≠ 15 ∧ f ≠ 38 → X.orc f args = none) {s0 s : Mm} {l : List HP} {gv : Value} {G : Gs} {n c : Nat} {L : List SpI} {x : SpI} (hF : Few n L) (hP : Parts L (adj n) ltI (G.map (·.2)))
    (hgm : HP.own 1 gv G.length (G.map (·.1)) ∈ l) (hrm : ∀ P ∈ rowsHP G, P ∈ l) (H : Hold s0 s l) (hx : InG (G.map (·.2)) c x) :
    CallP X 27 [gv, .int .i64 x.1, .int .i64 x.2.1] s (fun r s' => r = .int .i64 (c : Nat) ∧ s = s') := by
  have hGl := groups_le hF hP
  rw [List.length_map] at hGl
  obtain ⟨g, hg, hxg⟩ := hx
  obtain ⟨k0, hk0, ek⟩ := List.getElem_of_mem hxg
  have hk : g[k0]? = some x := by rw [List.getElem?_eq_getElem hk0, ek]
  refine run27 hX ho (c := cellI x) (G := G) (k0 := k0) (H.own hgm).slc (fun i g hg => row_at H hrm hg) (by omega) (fun g hg => Nat.le_trans (group_le hF hP _ (mem_snd hg)) (by omega)) (fun i g' k y hi hy => hF.hit hP hg hk (snd_get hi) hy) ?_
  rw [List.getElem?_map] at hg
  cases hG : G[c]? with
  | none => rw [hG] at hg; cases hg
  | some g2 => rw [hG] at hg; cases hg; exact ⟨g2, rfl, hk0⟩
set_option maxHeartbeats 4000000 in
theorem loop6a {X : Ctx} (hX : X.fns = fnsOf Try.prog) (ho : ∀ f args, f ≠ 15 ∧ f ≠ 38 → X.orc f args = none) {fr : Fr} {s0 s : Mm} {l : List HP} {v2 v7 v8 gv : Value} {G : Gs} {N : Nat} {Q : AExit → Fr → Mm → Prop}
    (hN : (G.map (·.2)).flatten.length = N) (hNl : N ≤ 80)
    (hgm : HP.own 1 gv G.length (G.map (·.1)) ∈ l) (hrm : ∀ P ∈ rowsHP G, P ∈ l) (hgl : G.length ≤ 80)
    (e2 : geT fr 2 = v2) (e7 : geT fr 7 = v7) (e8 : geT fr 8 = v8) (e9 : geT fr 9 = gv) (e10 : geT fr 10 = .int .i64 0) (e11 : geT fr 11 = .int .i64 0)
    (H : Hold s0 s l)
    (hQ : ∀ fr, geT fr 2 = v2 → geT fr 7 = v7 → geT fr 8 = v8 → geT fr 9 = gv → geT fr 10 = .int .i64 (N : Nat) → Q .normal fr s) :
    W X (.block 0 (.loop b6_8)) fr s Q := by
  have sg := (H.own hgm).slc
  refine qat (W_loop (fun m fr s1 => ∃ i : Nat, i + m = G.length ∧ s = s1 ∧ geT fr 2 = v2 ∧ geT fr 7 = v7 ∧ geT fr 8 = v8 ∧ geT fr 9 = gv ∧ geT fr 10 = .int .i64 (sumG (G.map (·.2)) i : Nat) ∧ geT fr 11 = .int .i64 (i : Nat)) G.length ⟨0, by omega, rfl, e2, e7, e8, e9, by rw [e10]; rfl, e11⟩ ?_)
  clear e2 e7 e8 e9 e10 e11 fr
  rintro m fr _ ⟨i, hi, rfl, e2, e7, e8, e9, e10, e11⟩
  refine W_assoc ?_
  refine qak (qan [2, 7, 8, 9, 10, 11, 39] ?_)
  simp only [o6_9, qar, WO_bu, qah, bin_lss, qaj, qag, qad, qaf, qab, qaa, qac, List.map_cons, List.map_nil, Nat.reduceEqDiff, ↓reduceIte, eq_self, e2, e7, e8, e9, e10, e11, sg.len]
  clear e2 e7 e8 e9 e10 e11
  intro fr e2 e7 e8 e9 e10 e11 e39
  refine qai ?_
  refine W_while e39 (fun hlt => ?_) (fun hlt => ?_)
  · have hi1 : i < G.length := by omega
    have hg := List.getElem?_eq_getElem hi1
    generalize G[i] = g at hg
    have sr := row_at H hrm hg
    have hs := sumG_succ (snd_get hg)
    have hle := sumG_le (G.map (·.2)) (i + 1)
    have A1 := sg.addr (kk := .i64) (i := ((i : Nat) : Int)) rfl hi1
    rw [Nat.mul_one] at A1
    have L1 : loadV s none (elP gv i) = some g.1 := sg.load (by rw [List.getElem?_map, hg]; rfl)
    have ia : ((sumG (G.map (·.2)) i : Nat) : Int) + ((g.2.length : Nat) : Int) = ((sumG (G.map (·.2)) (i + 1) : Nat) : Int) := by omega
    refine qak (qat ?_)
    refine qan [2, 7, 8, 9, 10, 11] ?_
    simp only [o6_10, WO_addrSl, qar, WO_bu, WO_load, qah, bin_add, qaj, qag, qad, qaf, qab, qaa, qac, List.map_cons, List.map_nil, Nat.reduceEqDiff, ↓reduceIte, eq_self, e2, e7, e8, e9, e10, e11, A1, L1, sr.len, ia, qam (n := ((sumG (G.map (·.2)) (i + 1) : Nat) : Int)) (by omega) (by omega)]
    clear e2 e7 e8 e9 e10 e11 e39
    intro fr e2 e7 e8 e9 e10 e11
    refine BlkK_n (qai ?_)
    refine qan [2, 7, 8, 9, 10, 11] ?_
    simp only [o6_11, qar, qah, bin_add, qaj, qag, qad, qaf, qae, qab, qaa, qac, Nat.reduceEqDiff, ↓reduceIte, eq_self, e2, e7, e8, e9, e10, e11, qam (n := (i : Int) + 1) (by omega) (by omega)]
    clear e2 e7 e8 e9 e10 e11
    intro fr e2 e7 e8 e9 e10 e11
    exact LoopK_n (m' := m - 1) (by omega) ⟨i + 1, by omega, rfl, e2, e7, e8, e9, e10, by rw [e11]; rfl⟩
  · have hii : i = G.length := by omega
    refine LoopK_x (BlkK_e (hQ _ e2 e7 e8 e9 ?_))
    rw [e10, hii, ← hN]
    unfold sumG
    rw [show G.length = (G.map (·.2)).length by rw [List.length_map], List.take_length]
set_option maxHeartbeats 4000000 in
theorem loop6b {X : Ctx} (hX : X.fns = fnsOf Try.prog) (ho : ∀ f args, f ≠ 15 ∧ f ≠ 38 → X.orc f args = none) {fr : Fr} {s0 s : Mm} {l : List HP} {iv v9 : Value} {L : List SpI} {n t : Nat} {Q : AExit → Fr → Mm → Prop} (hF : Few n L) (hn : 1 ≤ n) (ht : t < n)
    (him : HP.own 3 iv L.length (L.flatMap eI) ∈ l)
    (e2 : geT fr 2 = .int .i64 (t : Nat)) (e7 : geT fr 7 = .int .i64 (n : Nat)) (e8 : geT fr 8 = iv) (e9 : geT fr 9 = v9) (e12 : geT fr 12 = .slice none 0 0) (e13 : geT fr 13 = .int .i64 0)
    (H : Hold s0 s l)
    (hQ : ∀ fr s tv l', geT fr 2 = .int .i64 (t : Nat) → geT fr 7 = .int .i64 (n : Nat) → geT fr 8 = iv → geT fr 9 = v9 → geT fr 12 = tv → (∀ P ∈ l, P ∈ l') →
      Hold s0 s (HP.own 3 tv L.length ((L.map (rotI n t)).flatMap eI) :: l') → Q .normal fr s) :
    W X (.block 2 (.loop b6_17)) fr s Q := by
  have hB0 : ¬ ((n : Nat) : Int) = 0 := by omega
  have hn20 := hF.hn
  have hl80 := hF.len
  refine qat (W_loop (fun m fr s1 => ∃ (i : Nat) (tv : Value) (l' : List HP), i + m = L.length ∧ (∀ P ∈ l, P ∈ l') ∧ geT fr 2 = .int .i64 (t : Nat) ∧ geT fr 7 = .int .i64 (n : Nat) ∧ geT fr 8 = iv ∧ geT fr 9 = v9 ∧ geT fr 12 = tv ∧ geT fr 13 = .int .i64 (i : Nat) ∧
    Hold s0 s1 (HP.own 3 tv i (((L.take i).map (rotI n t)).flatMap eI) :: l')) L.length ⟨0, _, l, by omega, fun _ h => h, e2, e7, e8, e9, e12, e13, by simpa using H.nil 3⟩ ?_)
  clear e2 e7 e8 e9 e12 e13 fr H s
  rintro m fr s1 ⟨i, tv, l', hi, hsub, e2, e7, e8, e9, e12, e13, H⟩
  have si := (H.own (sz := 3) (v := iv) (n := L.length) (cs := L.flatMap eI) (by simp [hsub _ him])).slc
  refine W_assoc ?_
  refine qak (qan [2, 7, 8, 9, 12, 13, 63] ?_)
  simp only [o6_18, qar, WO_bu, qah, bin_lss, qaj, qag, qad, qaf, qab, qaa, qac, List.map_cons, List.map_nil, Nat.reduceEqDiff, ↓reduceIte, eq_self, e2, e7, e8, e9, e12, e13, si.len]
  clear e2 e7 e8 e9 e12 e13
  intro fr e2 e7 e8 e9 e12 e13 e63
  refine qai ?_
  refine W_while e63 (fun hlt => ?_) (fun hlt => ?_)
  · have hi1 : i < L.length := by omega
    obtain ⟨A1, L1⟩ := spots_at si hi1 rfl
    have hx : L[i]? = some (atI L i) := by rw [atI_eq hi1, List.getElem?_eq_getElem hi1]
    have hsm := hF.sm _ (List.mem_of_getElem? hx)
    generalize atI L i = x at L1 hx hsm
    have H1 := H.new z3
    have st : storeV (newAt s1 (.cells z3 false)) 3 (.pointer (some ⟨s1.nxt, 0, none⟩)) (sI x) = some (undefV, setBlk (newAt s1 (.cells z3 false)) s1.nxt (.cells (eI x) false)) := store_all (vs := eI x) (H1.cell (List.mem_cons_self ..)) rfl rfl rfl
    have H2 := H1.setc (cs' := eI x)
    have hz : newAt s1 (.cells [.int .i64 0, .int .i64 0, .float .f64 0] false) = newAt s1 (.cells z3 false) := rfl
    refine qak (qat ?_)
    refine qak (qan [2, 7, 8, 9, 12, 13, 14] ?_)
    simp only [o6_19, WO_addrSl, WO_alloc, WO_load, qah, WO_store, qaj, qag, MemK_some, qad, puT_none, qaf, qab, qaa, qac, Nat.reduceEqDiff, ↓reduceIte, eq_self, e2, e7, e8, e9, e12, e13, A1, L1, hz, st]
    clear e2 e7 e8 e9 e12 e13 e63
    intro fr e2 e7 e8 e9 e12 e13 e14
    refine qai ?_
    clear st hz H1 si A1 L1
    generalize setBlk (newAt s1 (.cells z3 false)) s1.nxt (.cells (eI x) false) = s2 at H2 ⊢
    generalize s1.nxt = Bx at H2 e14
    have x0 : loadV s2 none (.pointer (some ⟨Bx, 0, none⟩)) = some (.int .i64 x.1) := load_g (o := 0) (H2.cell (cs := eI x) (by simp))
    have st : storeV s2 1 (.pointer (some ⟨Bx, 0, none⟩)) (.int .i64 (rotI n t x).1) = some (undefV, setBlk s2 Bx (.cells (eI (rotI n t x)) false)) := store_g (o := 0) (H2.cell (cs := eI x) (by simp)) rfl (by simp [eI])
    have H3 := H2.setc (cs' := eI (rotI n t x))
    have hsx := hsm.1
    refine qak (qan [2, 7, 8, 9, 12, 13, 14] ?_)
    simp only [o6_20, qar, WO_fieldAddr, fieldAddr_p, WO_load, qah, WO_store, bin_add, bin_rem, qaj, qag, MemK_some, qad, puT_none, qaf, qab, qaa, qac, Nat.reduceEqDiff, ↓reduceIte, eq_self, Nat.add_zero, e2, e7, e8, e9, e12, e13, e14, x0, if_neg hB0, qam (n := x.1 + ((t : Nat) : Int)) (by omega) (by omega), rot_is (t := t) hsm, st]
    clear e2 e7 e8 e9 e12 e13 e14
    intro fr e2 e7 e8 e9 e12 e13 e14
    refine qai ?_
    generalize setBlk s2 Bx (.cells (eI (rotI n t x)) false) = s3 at H3 ⊢
    have lx : loadV s3 (some 3) (.pointer (some ⟨Bx, 0, none⟩)) = some (sI (rotI n t x)) := (loadn_all (H3.cell (cs := eI (rotI n t x)) (by simp)) rfl).trans rfl
    have hbs : buildSlV s3 3 [.int .i64 0, .int .i64 0, .float .f64 0] 1 [(0, 3, sI (rotI n t x))] = some (.slice (some ⟨s3.nxt, 0, none⟩) 1 1, .cells (eI (rotI n t x)) false) := rfl
    obtain ⟨tv', s4, ap, H4⟩ := H3.up1.push (bytes := 24) (new := eI (rotI n t x)) rfl rfl (by omega) (by decide) (by omega) (by omega) (by omega)
    refine qan [2, 7, 8, 9, 12, 13] ?_
    simp only [o6_21, WO_append, WO_buildSlice, WO_load, qah, qaj, qag, MemK_some, NewK_some, qad, qaf, qab, qaa, qac, List.map_cons, List.map_nil, Nat.reduceEqDiff, ↓reduceIte, eq_self, Nat.zero_mul, e2, e7, e8, e9, e12, e13, e14, lx, hbs, ap]
    clear e2 e7 e8 e9 e12 e13 e14
    intro fr e2 e7 e8 e9 e12 e13
    refine BlkK_n (qai ?_)
    refine qan [2, 7, 8, 9, 12, 13] ?_
    simp only [o6_22, qar, qah, bin_add, qaj, qag, qad, qaf, qae, qab, qaa, qac, Nat.reduceEqDiff, ↓reduceIte, eq_self, e2, e7, e8, e9, e12, e13, qam (n := (i : Int) + 1) (by omega) (by omega)]
    clear e2 e7 e8 e9 e12 e13
    intro fr e2 e7 e8 e9 e12 e13
    refine LoopK_n (m' := m - 1) (by omega) ⟨i + 1, tv', HP.cell Bx (eI (rotI n t x)) :: l', by omega, fun P hP => List.mem_cons_of_mem _ (hsub P hP), e2, e7, e8, e9, e12, by rw [e13]; rfl, ?_⟩
    have h1 : ((L.take (i + 1)).map (rotI n t)).flatMap eI = ((L.take i).map (rotI n t)).flatMap eI ++ eI (rotI n t x) := by
      rw [List.take_add_one, hx]
      simp
    rw [h1]
    exact H4
  · have hii : i = L.length := by omega
    subst hii
    rw [List.take_length] at H
    exact LoopK_x (BlkK_e (hQ _ _ tv l' e2 e7 e8 e9 e12 hsub H))
end Go.Proofs.Ytpphomoijlilfaa.G

/- Peaks: the law of parts: walked whole. -/
namespace Go.Proofs.Ytpphomoijlilfaa.G
open Go Go.Vam Go.Hang
set_option maxHeartbeats 4000000 in
theorem loop6c {X : Ctx} (hX : X.fns = fnsOf Try.prog) (ho : ∀ f args, f ≠ 15 ∧ f ≠ 38 → X.orc f args = none) {fr : Fr} {s0 s : Mm} {l : List HP} {iv tv gv hv : Value} {L : List SpI} {G G' : Gs} {n t i c c' : Nat} {x : SpI} {Q : AExit → Fr → Mm → Prop} (hF : Few n L) (ht : t < n)
    (hG : Parts L (adj n) ltI (G.map (·.2))) (hH : Parts (L.map (rotI n t)) (adj n) ltI (G'.map (·.2)))
    (him : HP.own 3 iv L.length (L.flatMap eI) ∈ l) (htm : HP.own 3 tv (L.map (rotI n t)).length ((L.map (rotI n t)).flatMap eI) ∈ l)
    (hgm : HP.own 1 gv G.length (G.map (·.1)) ∈ l) (hgr : ∀ P ∈ rowsHP G, P ∈ l) (hhm : HP.own 1 hv G'.length (G'.map (·.1)) ∈ l) (hhr : ∀ P ∈ rowsHP G', P ∈ l)
    (hx : L[i]? = some x) (hc : InG (G.map (·.2)) c x) (hc' : InG (G'.map (·.2)) c' (rotI n t x))
    (e7 : geT fr 7 = .int .i64 (n : Nat)) (e8 : geT fr 8 = iv) (e9 : geT fr 9 = gv) (e12 : geT fr 12 = tv) (e15 : geT fr 15 = hv) (e16 : geT fr 16 = .int .i64 (i : Nat)) (e17 : geT fr 17 = .int .i64 (c : Nat)) (e18 : geT fr 18 = .int .i64 (c' : Nat)) (e19 : geT fr 19 = .int .i64 0)
    (H : Hold s0 s l)
    (hQ : ∀ fr s, geT fr 7 = .int .i64 (n : Nat) → geT fr 8 = iv → geT fr 9 = gv → geT fr 12 = tv → geT fr 15 = hv → geT fr 16 = .int .i64 (i : Nat) → Hold s0 s l → Q .normal fr s) :
    W X (.block 6 (.loop b6_32)) fr s Q := by
  have hFr := hF.rot ht
  have hl80 := hF.len
  have hi1 : i < L.length := (List.getElem?_eq_some_iff.1 hx).1
  have hsx := hF.sm _ (List.mem_of_getElem? hx)
  refine qat (W_loop (fun m fr s1 => ∃ k : Nat, k + m = L.length ∧ geT fr 7 = .int .i64 (n : Nat) ∧ geT fr 8 = iv ∧ geT fr 9 = gv ∧ geT fr 12 = tv ∧ geT fr 15 = hv ∧ geT fr 16 = .int .i64 (i : Nat) ∧ geT fr 17 = .int .i64 (c : Nat) ∧ geT fr 18 = .int .i64 (c' : Nat) ∧ geT fr 19 = .int .i64 (k : Nat) ∧ Hold s0 s1 l) L.length ⟨0, by omega, e7, e8, e9, e12, e15, e16, e17, e18, e19, H⟩ ?_)
  clear e7 e8 e9 e12 e15 e16 e17 e18 e19 fr H s
  rintro m fr s ⟨k, hk, e7, e8, e9, e12, e15, e16, e17, e18, e19, H⟩
  have si := (H.own him).slc
  have st := (H.own htm).slc
  rw [List.length_map] at st
  refine W_assoc ?_
  refine qak (qan [7, 8, 9, 12, 15, 16, 17, 18, 19, 143] ?_)
  simp only [o6_33, qar, WO_bu, qah, bin_lss, qaj, qag, qad, qaf, qab, qaa, qac, List.map_cons, List.map_nil, Nat.reduceEqDiff, ↓reduceIte, eq_self, e7, e8, e9, e12, e15, e16, e17, e18, e19, si.len]
  clear e7 e8 e9 e12 e15 e16 e17 e18 e19
  intro fr e7 e8 e9 e12 e15 e16 e17 e18 e19 e143
  refine qai ?_
  refine W_while e143 (fun hlt => ?_) (fun hlt => ?_)
  · have hk1 : k < L.length := by omega
    have hk2 : k < (L.map (rotI n t)).length := by rw [List.length_map]; exact hk1
    have hy : L[k]? = some (atI L k) := by rw [atI_eq hk1, List.getElem?_eq_getElem hk1]
    have hy2 : atI (L.map (rotI n t)) k = rotI n t (atI L k) := by
      have h1 : (L.map (rotI n t))[k]? = some (rotI n t (atI L k)) := by rw [List.getElem?_map, hy]; rfl
      rw [atI_eq hk2]
      exact (List.getElem?_eq_some_iff.1 h1).2
    obtain ⟨f0, f1, -, -⟩ := flatI hk1
    obtain ⟨g0, g1, -, -⟩ := flatI hk2
    rw [hy2] at g0 g1
    generalize atI L k = y at hy f0 f1 g0 g1
    clear hy2
    have hyL := List.mem_of_getElem? hy
    have hsy := hF.sm _ hyL
    obtain ⟨d, hd⟩ := InG.ex hG hyL
    obtain ⟨d', hd'⟩ := InG.ex hH (List.mem_map_of_mem (f := rotI n t) hyL)
    obtain ⟨hb1, hb2⟩ := hF.both ht hG hH hc hd hc' hd'
    have A1 := si.addr (kk := .i64) (i := ((k : Nat) : Int)) rfl hk1
    have p0 := si.fld (by omega) (k * 3) 0
    have p1 := si.fld (by omega) (k * 3) 1
    rw [Nat.add_zero] at p0
    have l0 := si.load f0
    have l1 := si.load f1
    have A2 := st.addr (kk := .i64) (i := ((k : Nat) : Int)) rfl hk1
    have q0 := st.fld (by omega) (k * 3) 0
    have q1 := st.fld (by omega) (k * 3) 1
    rw [Nat.add_zero] at q0
    have m0 := st.load g0
    have m1 := st.load g1
    have A3 := si.addr (kk := .i64) (i := ((i : Nat) : Int)) rfl hi1
    have L3 := row_ld si (fun z hz => hF.sm z hz) hx
    have L1 := row_ld si (fun z hz => hF.sm z hz) hy
    have dd1 : decide (((d : Nat) : Int) = ((c : Nat) : Int)) = decide (d = c) := decide_eq_decide.2 (by omega)
    have dd2 : decide (((d' : Nat) : Int) = ((c' : Nat) : Int)) = decide (d = c) := decide_eq_decide.2 (by rw [hb1]; omega)
    refine qak (qat ?_)
    refine qak (W_draw0 [7, 8, 9, 12, 15, 16, 17, 18, 19, 20] rfl ?_)
    simp only [d6_34, WD_addrSl, WD_fieldAddr, WD_load, WD_move, qal, qas, pastR_nil, qaq, qao, qad, qaf, List.map_cons, List.map_nil, Nat.reduceEqDiff, Nat.reduceAdd, ↓reduceIte, eq_self, true_and, Nat.zero_add, e8, e9, e19, WD_callN, A1, p0, p1, l0, l1]
    refine DCallK_of rfl (grpOf hX ho hF hG hgm hgr H hd) ?_
    rintro _ _ ⟨rfl, rfl⟩
    simp only [WD_bin, WD_move, bin_eql, WD_nil, qal, qaq, qap, qao, Nat.testBit, Nat.reduceShiftRight, Nat.reduceAnd, Nat.reduceBneDiff, List.all_nil, List.all_cons, List.filter_nil, List.filter_cons, qad, qaf, qab, qaa, qac, Nat.reduceEqDiff, Nat.reduceAdd, ↓reduceIte, Bool.not_true, Bool.and_true, Bool.true_or, eq_self, Bool.false_eq_true, true_and, e7, e8, e9, e12, e15, e16, e17, e18, e19, dd1]
    clear e7 e8 e9 e12 e15 e16 e17 e18 e19 e143
    intro fr e7 e8 e9 e12 e15 e16 e17 e18 e19 e20
    refine qai ?_
    refine qak (W_draw0 [7, 8, 9, 12, 15, 16, 17, 18, 19, 20, 21] rfl ?_)
    simp only [d6_35, WD_addrSl, WD_fieldAddr, WD_load, WD_move, qal, qas, pastR_nil, qaq, qao, qad, qaf, List.map_cons, List.map_nil, Nat.reduceEqDiff, Nat.reduceAdd, ↓reduceIte, eq_self, true_and, Nat.zero_add, e12, e15, e19, WD_callN, A2, q0, q1, m0, m1]
    refine DCallK_of rfl (grpOf hX ho hFr hH hhm hhr H hd') ?_
    rintro _ _ ⟨rfl, rfl⟩
    simp only [WD_bin, WD_move, bin_eql, WD_nil, qal, qaq, qap, qao, Nat.testBit, Nat.reduceShiftRight, Nat.reduceAnd, Nat.reduceBneDiff, List.all_nil, List.all_cons, List.filter_nil, List.filter_cons, qad, qaf, qab, qaa, qac, Nat.reduceEqDiff, Nat.reduceAdd, ↓reduceIte, Bool.not_true, Bool.and_true, Bool.true_or, eq_self, Bool.false_eq_true, true_and, e7, e8, e9, e12, e15, e16, e17, e18, e19, e20, dd2]
    clear e7 e8 e9 e12 e15 e16 e17 e18 e19 e20
    intro fr e7 e8 e9 e12 e15 e16 e17 e18 e19 e20 e21
    refine qai ?_
    cases hdc : decide (d = c) with
    | true =>
      rw [hdc] at e20 e21
      refine qak (W_draw0 [7, 8, 9, 12, 15, 16, 17, 18, 19, 192] rfl ?_)
      simp only [d6_36, WD_eq, WD_move, WD_pick, pick_b, WD_un, un_not, want_v, wantB_t, wantB_f, WD_nil, qal, DActK_some, preHead_nil, qaq, qap, qao, Nat.testBit, List.all_nil, List.filter_nil, qad, qaf, qae, qab, qaa, qac, Nat.reduceEqDiff, Nat.reduceAdd, ↓reduceIte, Bool.not_true, Bool.not_false, eq_self, Bool.false_eq_true, true_and, Nat.zero_add, e7, e8, e9, e12, e15, e16, e17, e18, e19, e20, e21, WD_yes, WD_no_move, WD_no_addrSl, WD_no_load, WD_no_call, eq_bb]
      clear e7 e8 e9 e12 e15 e16 e17 e18 e19 e20 e21
      intro fr e7 e8 e9 e12 e15 e16 e17 e18 e19 e192
      refine qai ?_
      refine W_cond e192 (fun h => by cases h) (fun _ => W_skip (BlkK_n (qai ?_)))
      refine qan [7, 8, 9, 12, 15, 16, 17, 18, 19] ?_
      simp only [o6_38, qar, qah, bin_add, qaj, qag, qad, qaf, qae, qab, qaa, qac, Nat.reduceEqDiff, ↓reduceIte, eq_self, e7, e8, e9, e12, e15, e16, e17, e18, e19, qam (n := (k : Int) + 1) (by omega) (by omega)]
      clear e7 e8 e9 e12 e15 e16 e17 e18 e19 e192
      intro fr e7 e8 e9 e12 e15 e16 e17 e18 e19
      exact LoopK_n (m' := m - 1) (by omega) ⟨k + 1, by omega, e7, e8, e9, e12, e15, e16, e17, e18, by rw [e19]; rfl, H⟩
    | false =>
      rw [hdc] at e20 e21
      have hnx : nextB (toS x) (toS y) n = false := by
        have h1 := hb2 (of_decide_eq_false hdc)
        rw [← next_adj hF.hn hsx hsy] at h1
        simpa using h1
      refine qak (W_draw0 [7, 8, 9, 12, 15, 16, 17, 18, 19, 192] rfl ?_)
      simp only [d6_36, WD_addrSl, WD_eq, WD_load, WD_move, WD_un, un_not, want_v, wantB_t, wantB_f, qal, qas, pastR_nil, qaq, qao, qad, qaf, List.map_cons, List.map_nil, Nat.reduceEqDiff, Nat.reduceAdd, ↓reduceIte, Bool.not_false, eq_self, true_and, Nat.zero_add, e7, e8, e16, e19, e20, e21, WD_callN, WD_yes, eq_bb, A1, A3, L1, L3]
      refine DCallK_of rfl (run28i hX ho hF.hn hsx hsy) ?_
      rintro _ s2 ⟨rfl, hs2⟩
      simp only [WD_pick, pick_b, want_v, wantB_f, WD_nil, qal, qaq, qap, qao, Nat.testBit, Nat.reduceShiftRight, Nat.reduceAnd, Nat.reduceBneDiff, List.all_nil, List.all_cons, List.filter_nil, List.filter_cons, qad, qaf, qae, qab, qaa, qac, Nat.reduceEqDiff, Nat.reduceAdd, ↓reduceIte, Bool.not_true, Bool.not_false, Bool.and_true, Bool.true_or, eq_self, Bool.false_eq_true, true_and, e7, e8, e9, e12, e15, e16, e17, e18, e19, WD_yes, hnx]
      clear e7 e8 e9 e12 e15 e16 e17 e18 e19 e20 e21
      intro fr e7 e8 e9 e12 e15 e16 e17 e18 e19 e192
      refine qai ?_
      refine W_cond e192 (fun h => by cases h) (fun _ => W_skip (BlkK_n (qai ?_)))
      refine qan [7, 8, 9, 12, 15, 16, 17, 18, 19] ?_
      simp only [o6_38, qar, qah, bin_add, qaj, qag, qad, qaf, qae, qab, qaa, qac, Nat.reduceEqDiff, ↓reduceIte, eq_self, e7, e8, e9, e12, e15, e16, e17, e18, e19, qam (n := (k : Int) + 1) (by omega) (by omega)]
      clear e7 e8 e9 e12 e15 e16 e17 e18 e19 e192
      intro fr e7 e8 e9 e12 e15 e16 e17 e18 e19
      exact LoopK_n (m' := m - 1) (by omega) ⟨k + 1, by omega, e7, e8, e9, e12, e15, e16, e17, e18, by rw [e19]; rfl, H.keep hs2⟩
  · exact LoopK_x (BlkK_e (hQ _ _ e7 e8 e9 e12 e15 e16 H))
set_option maxHeartbeats 4000000 in
theorem loop6d {X : Ctx} (hX : X.fns = fnsOf Try.prog) (ho : ∀ f args, f ≠ 15 ∧ f ≠ 38 → X.orc f args = none) {fr : Fr} {s0 s : Mm} {l : List HP} {iv tv gv hv : Value} {L : List SpI} {G G' : Gs} {n t : Nat} {Q : AExit → Fr → Mm → Prop} (hF : Few n L) (ht : t < n)
    (hG : Parts L (adj n) ltI (G.map (·.2))) (hH : Parts (L.map (rotI n t)) (adj n) ltI (G'.map (·.2)))
    (him : HP.own 3 iv L.length (L.flatMap eI) ∈ l) (htm : HP.own 3 tv (L.map (rotI n t)).length ((L.map (rotI n t)).flatMap eI) ∈ l)
    (hgm : HP.own 1 gv G.length (G.map (·.1)) ∈ l) (hgr : ∀ P ∈ rowsHP G, P ∈ l) (hhm : HP.own 1 hv G'.length (G'.map (·.1)) ∈ l) (hhr : ∀ P ∈ rowsHP G', P ∈ l)
    (e7 : geT fr 7 = .int .i64 (n : Nat)) (e8 : geT fr 8 = iv) (e9 : geT fr 9 = gv) (e12 : geT fr 12 = tv) (e15 : geT fr 15 = hv) (e16 : geT fr 16 = .int .i64 0)
    (H : Hold s0 s l)
    (hQ : ∀ fr s, Q .normal fr s) :
    W X (.block 4 (.loop b6_25)) fr s Q := by
  have hFr := hF.rot ht
  have hl80 := hF.len
  have hcount := hF.count ht hG hH
  rw [List.length_map, List.length_map] at hcount
  have hGl := groups_le hF hG
  rw [List.length_map] at hGl
  refine qat (W_loop (fun m fr s1 => ∃ i : Nat, i + m = L.length ∧ geT fr 7 = .int .i64 (n : Nat) ∧ geT fr 8 = iv ∧ geT fr 9 = gv ∧ geT fr 12 = tv ∧ geT fr 15 = hv ∧ geT fr 16 = .int .i64 (i : Nat) ∧ Hold s0 s1 l) L.length ⟨0, by omega, e7, e8, e9, e12, e15, e16, H⟩ ?_)
  clear e7 e8 e9 e12 e15 e16 fr H s
  rintro m fr s ⟨i, hi, e7, e8, e9, e12, e15, e16, H⟩
  have si := (H.own him).slc
  have st := (H.own htm).slc
  have sg := (H.own hgm).slc
  have sh := (H.own hhm).slc
  rw [List.length_map] at st
  refine W_assoc ?_
  refine qak (qan [7, 8, 9, 12, 15, 16, 87] ?_)
  simp only [o6_26, qar, WO_bu, qah, bin_lss, qaj, qag, qad, qaf, qab, qaa, qac, List.map_cons, List.map_nil, Nat.reduceEqDiff, ↓reduceIte, eq_self, e7, e8, e9, e12, e15, e16, si.len]
  clear e7 e8 e9 e12 e15 e16
  intro fr e7 e8 e9 e12 e15 e16 e87
  refine qai ?_
  refine W_while e87 (fun hlt => ?_) (fun hlt => ?_)
  · have hk1 : i < L.length := by omega
    have hk2 : i < (L.map (rotI n t)).length := by rw [List.length_map]; exact hk1
    have hy : L[i]? = some (atI L i) := by rw [atI_eq hk1, List.getElem?_eq_getElem hk1]
    have hy2 : atI (L.map (rotI n t)) i = rotI n t (atI L i) := by
      have h1 : (L.map (rotI n t))[i]? = some (rotI n t (atI L i)) := by rw [List.getElem?_map, hy]; rfl
      rw [atI_eq hk2]
      exact (List.getElem?_eq_some_iff.1 h1).2
    obtain ⟨f0, f1, -, -⟩ := flatI hk1
    obtain ⟨g0, g1, -, -⟩ := flatI hk2
    rw [hy2] at g0 g1
    generalize atI L i = x at hy f0 f1 g0 g1
    clear hy2
    have hxL := List.mem_of_getElem? hy
    obtain ⟨c, hc⟩ := InG.ex hG hxL
    obtain ⟨c', hc'⟩ := InG.ex hH (List.mem_map_of_mem (f := rotI n t) hxL)
    obtain ⟨gg, hg1, hg2⟩ := id hc
    obtain ⟨hh, hh1, hh2⟩ := id hc'
    have hsz := hF.size ht hG hH (List.mem_of_getElem? hg1) (List.mem_of_getElem? hh1) hg2 hh2
    have hcl : c < G.length := by have := hc.lt; rwa [List.length_map] at this
    have hcl' : c' < G'.length := by have := hc'.lt; rwa [List.length_map] at this
    have hga := List.getElem?_eq_getElem hcl
    have hha := List.getElem?_eq_getElem hcl'
    generalize G[c] = ga at hga
    generalize G'[c'] = ha at hha
    have ega : ga.2 = gg := by have := snd_get hga; rw [hg1] at this; exact (Option.some.inj this).symm
    have eha : ha.2 = hh := by have := snd_get hha; rw [hh1] at this; exact (Option.some.inj this).symm
    have sga := row_at H hgr hga
    have sha := row_at H hhr hha
    have hle : ga.2.length ≤ 80 := group_le hF hG _ (mem_snd (List.mem_of_getElem? hga))
    have hlen : ha.2.length = ga.2.length := by rw [ega, eha]; exact hsz
    have A1 := si.addr (kk := .i64) (i := ((i : Nat) : Int)) rfl hk1
    have p0 := si.fld (by omega) (i * 3) 0
    have p1 := si.fld (by omega) (i * 3) 1
    rw [Nat.add_zero] at p0
    have l0 := si.load f0
    have l1 := si.load f1
    have A2 := st.addr (kk := .i64) (i := ((i : Nat) : Int)) rfl hk1
    have q0 := st.fld (by omega) (i * 3) 0
    have q1 := st.fld (by omega) (i * 3) 1
    rw [Nat.add_zero] at q0
    have m0 := st.load g0
    have m1 := st.load g1
    have B1 := sg.addr (kk := .i64) (i := ((c : Nat) : Int)) rfl hcl
    have B2 := sh.addr (kk := .i64) (i := ((c' : Nat) : Int)) rfl hcl'
    rw [Nat.mul_one] at B1 B2
    have M1 : loadV s none (elP gv c) = some ga.1 := sg.load (by rw [List.getElem?_map, hga]; rfl)
    have M2 : loadV s none (elP hv c') = some ha.1 := sh.load (by rw [List.getElem?_map, hha]; rfl)
    have d1 : decide (((c : Nat) : Int) < 0) = false := decide_eq_false (by omega)
    have d2 : decide (((c' : Nat) : Int) < 0) = false := decide_eq_false (by omega)
    have d3 : decide (((G'.length : Nat) : Int) = ((G.length : Nat) : Int)) = true := decide_eq_true (by omega)
    have d4 : decide (((ha.2.length : Nat) : Int) = ((ga.2.length : Nat) : Int)) = true := decide_eq_true (by omega)
    refine qak (qat ?_)
    refine qak (W_draw0 [7, 8, 9, 12, 15, 16, 17] rfl ?_)
    simp only [d6_27, WD_addrSl, WD_fieldAddr, WD_load, WD_move, qal, qas, pastR_nil, qaq, qao, qad, qaf, List.map_cons, List.map_nil, Nat.reduceEqDiff, Nat.reduceAdd, ↓reduceIte, eq_self, true_and, Nat.zero_add, e8, e9, e16, WD_callN, A1, p0, p1, l0, l1]
    refine DCallK_of rfl (grpOf hX ho hF hG hgm hgr H hc) ?_
    rintro _ _ ⟨rfl, rfl⟩
    simp only [WD_move, WD_nil, qal, qaq, qap, qao, Nat.testBit, Nat.reduceShiftRight, Nat.reduceAnd, Nat.reduceBneDiff, List.all_nil, List.all_cons, List.filter_nil, List.filter_cons, qad, qaf, qab, qaa, qac, Nat.reduceEqDiff, Nat.reduceAdd, ↓reduceIte, Bool.not_true, Bool.and_true, Bool.true_or, eq_self, Bool.false_eq_true, true_and, e7, e8, e9, e12, e15, e16]
    clear e7 e8 e9 e12 e15 e16 e87
    intro fr e7 e8 e9 e12 e15 e16 e17
    refine qai ?_
    refine qak (W_draw0 [7, 8, 9, 12, 15, 16, 17, 18] rfl ?_)
    simp only [d6_28, WD_addrSl, WD_fieldAddr, WD_load, WD_move, qal, qas, pastR_nil, qaq, qao, qad, qaf, List.map_cons, List.map_nil, Nat.reduceEqDiff, Nat.reduceAdd, ↓reduceIte, eq_self, true_and, Nat.zero_add, e12, e15, e16, WD_callN, A2, q0, q1, m0, m1]
    refine DCallK_of rfl (grpOf hX ho hFr hH hhm hhr H hc') ?_
    rintro _ _ ⟨rfl, rfl⟩
    simp only [WD_move, WD_nil, qal, qaq, qap, qao, Nat.testBit, Nat.reduceShiftRight, Nat.reduceAnd, Nat.reduceBneDiff, List.all_nil, List.all_cons, List.filter_nil, List.filter_cons, qad, qaf, qab, qaa, qac, Nat.reduceEqDiff, Nat.reduceAdd, ↓reduceIte, Bool.not_true, Bool.and_true, Bool.true_or, eq_self, Bool.false_eq_true, true_and, e7, e8, e9, e12, e15, e16, e17]
    clear e7 e8 e9 e12 e15 e16 e17
    intro fr e7 e8 e9 e12 e15 e16 e17 e18
    refine qai ?_
    refine W_assoc ?_
    refine qak (W_draw0 [7, 8, 9, 12, 15, 16, 17, 18, 139] rfl ?_)
    simp only [d6_29, WD_addrSl, WD_bin, WD_bu, WD_load, WD_move, WD_pick, pick_b, bin_lss, bin_neq, want_v, wantB_f, WD_nil, qal, qas, pastR_nil, qap, qao, qad, qaf, qae, qab, qaa, qac, List.map_cons, List.map_nil, Nat.reduceEqDiff, Nat.reduceAdd, ↓reduceIte, Bool.not_true, Bool.not_false, eq_self, Bool.false_eq_true, true_and, Nat.zero_add, e7, e8, e9, e12, e15, e16, e17, e18, WD_yes, d1, d2, d3, d4, sg.len, sh.len, B1, B2, M1, M2, sga.len, sha.len]
    clear e7 e8 e9 e12 e15 e16 e17 e18
    intro fr e7 e8 e9 e12 e15 e16 e17 e18 e139
    refine qai ?_
    refine qak (W_cond e139 (fun h => by cases h) (fun _ => W_skip (qai ?_)))
    refine qak (qan [7, 8, 9, 12, 15, 16, 17, 18, 19] ?_)
    simp only [o6_31, qah, qaj, qad, qae, qab, qaa, qac, Nat.reduceEqDiff, ↓reduceIte, eq_self, e7, e8, e9, e12, e15, e16, e17, e18]
    clear e7 e8 e9 e12 e15 e16 e17 e18 e139
    intro fr e7 e8 e9 e12 e15 e16 e17 e18 e19
    refine qai ?_
    refine loop6c hX ho hF ht hG hH him htm hgm hgr hhm hhr hy hc hc' e7 e8 e9 e12 e15 e16 e17 e18 e19 H ?_
    clear e7 e8 e9 e12 e15 e16 e17 e18 e19 fr
    intro fr s2 e7 e8 e9 e12 e15 e16 H2
    refine BlkK_n (qai ?_)
    refine qan [7, 8, 9, 12, 15, 16] ?_
    simp only [o6_39, qar, qah, bin_add, qaj, qag, qad, qaf, qae, qab, qaa, qac, Nat.reduceEqDiff, ↓reduceIte, eq_self, e7, e8, e9, e12, e15, e16, qam (n := (i : Int) + 1) (by omega) (by omega)]
    clear e7 e8 e9 e12 e15 e16
    intro fr e7 e8 e9 e12 e15 e16
    exact LoopK_n (m' := m - 1) (by omega) ⟨i + 1, by omega, e7, e8, e9, e12, e15, by rw [e16]; rfl, H2⟩
  · exact LoopK_x (BlkK_e (hQ _ _))
end Go.Proofs.Ytpphomoijlilfaa.G

/- Peaks: the law of parts, walked whole. -/
namespace Go.Proofs.Ytpphomoijlilfaa.G
open Go Go.Vam Go.Hang
set_option maxHeartbeats 4000000 in
theorem run6 {X : Ctx} (hX : X.fns = fnsOf Try.prog) (ho : ∀ f args, f ≠ 15 ∧ f ≠ 38 → X.orc f args = none) (hw : X.orc 15 [] = some (.bool true)) (hA38 : ∀ x y : SpI, X.orc 38 [sI x, sI y] = some (.int .i64 (ahZ x y))) {s : Mm} {v : Value} {L0 : List SpI} {b : Nat} {turn : Int} (a : SlC s 3 v L0.length (L0.flatMap eI)) (hb : b ≤ 255) :
    CallP X 6 [v, .int .u8 (b : Nat), .int .i64 turn] s (fun r _ => r = .bool true) := by
  obtain ⟨n, hn⟩ : ∃ n, n = b % 20 + 1 := ⟨_, rfl⟩
  have hn1 : 1 ≤ n ∧ n ≤ 20 := by omega
  have h20 : ¬ (20 : Int) = 0 := by omega
  have hB0 : ¬ ((n : Nat) : Int) = 0 := by omega
  have hm : ((b : Nat) : Int).tmod 20 = ((b % 20 : Nat) : Int) := (Int.ofNat_tmod b 20).symm
  have hn2 : ((b % 20 : Nat) : Int) + 1 = ((n : Nat) : Int) := by omega
  obtain ⟨ht1, ht2, ht3⟩ := tmod_in turn (n := (n : Int)) (by omega)
  obtain ⟨t, ht⟩ : ∃ t : Nat, (turn.tmod n + n).tmod n = (t : Nat) := ⟨_, (Int.toNat_of_nonneg ht2).symm⟩
  have htn : t < n := by omega
  refine CallP_of (hX ▸ ir6_eq) (ho _ _ (by decide)) (Nat.le_of_ble_eq_true rfl) ?_
  refine qak (qan [0, 1, 2] ?_)
  simp only [o6_0, qah, qaj, qad, frame_nil, frame_cons, qae, qab, qaa, qac, Nat.reduceEqDiff, Nat.reduceAdd, ↓reduceIte, eq_self, Nat.zero_add]
  intro fr e0 e1 e2
  refine qai ?_
  refine qak (qan [0, 2, 7] ?_)
  simp only [o6_1, qar, WO_conv, conv_int, qah, bin_add, bin_rem, qaj, qag, qad, qaf, qae, qab, qaa, qac, Nat.reduceEqDiff, ↓reduceIte, Int.reduceEq, eq_self, e0, e1, e2, qam (n := ((b : Nat) : Int)) (by omega) (by omega), hm, hn2, qam (n := ((n : Nat) : Int)) (by omega) (by omega)]
  clear e0 e1 e2
  intro fr e0 e2 e7
  refine qai ?_
  refine qak (qan [2, 7, 8] ?_)
  simp only [o6_2, WO_call, qah, qad, qaf, List.map_cons, List.map_nil, Nat.reduceEqDiff, ↓reduceIte, eq_self, e0, e7]
  refine CallK_of (run25 hX ho hn1 (Hold.refl s) a) ?_
  rintro iv s1 ⟨L, hF, H1⟩
  simp only [qah, qaj, qad, qaf, qab, qaa, qac, Nat.reduceEqDiff, ↓reduceIte, eq_self, e2, e7]
  clear e0 e2 e7
  intro fr e2 e7 e8
  refine qai ?_
  have hl80 := hF.len
  have hwI : ∀ x ∈ L, wI x := fun x hx => (hF.sm x hx).w hF.hn
  have si := (H1.own (sz := 3) (v := iv) (n := L.length) (cs := L.flatMap eI) (by simp)).slc
  refine qak (qan [2, 7, 8, 9] ?_)
  simp only [o6_3, WO_call, qah, qad, qaf, List.map_cons, List.map_nil, Nat.reduceEqDiff, ↓reduceIte, eq_self, e7, e8]
  refine CallK_of (run17 hX ho hA38 H1 si (by omega) (by omega) hwI) ?_
  rintro gv s2 ⟨G, hP, -, H2⟩
  simp only [qah, qaj, qad, qaf, qab, qaa, qac, Nat.reduceEqDiff, ↓reduceIte, eq_self, e2, e7, e8]
  clear e2 e7 e8
  intro fr e2 e7 e8 e9
  refine qai ?_
  have hG := hF.parts hP
  clear hP si H1 s1
  have hGl := groups_le hF hG
  rw [List.length_map] at hGl
  refine W_assoc ?_
  refine qak (qan [2, 7, 8, 9, 35] ?_)
  simp only [o6_4, WO_call, qah, qad, qaf, List.map_cons, List.map_nil, Nat.reduceEqDiff, ↓reduceIte, eq_self, e7, e9]
  refine CallK_of (run26 hX ho hF hG hGl (by simp) (fun P hP => by simp [hP]) H2) ?_
  rintro _ s3 ⟨rfl, H3⟩
  clear H2 s2
  simp only [WO_un, un_not, qaj, qag, qad, qaf, qab, qaa, qac, Nat.reduceEqDiff, ↓reduceIte, Bool.not_true, eq_self, e2, e7, e8, e9]
  clear e2 e7 e8 e9
  intro fr e2 e7 e8 e9 e35
  refine qai ?_
  refine qak (W_cond e35 (fun h => by cases h) (fun _ => W_skip (qai ?_)))
  refine qak (qan [2, 7, 8, 9, 10] ?_)
  simp only [o6_6, qah, qaj, qad, qae, qab, qaa, qac, Nat.reduceEqDiff, ↓reduceIte, eq_self, e2, e7, e8, e9]
  clear e2 e7 e8 e9 e35
  intro fr e2 e7 e8 e9 e10
  refine qai ?_
  refine W_assoc ?_
  refine qak (qan [2, 7, 8, 9, 10, 11] ?_)
  simp only [o6_7, qah, qaj, qad, qae, qab, qaa, qac, Nat.reduceEqDiff, ↓reduceIte, eq_self, e2, e7, e8, e9, e10]
  clear e2 e7 e8 e9 e10
  intro fr e2 e7 e8 e9 e10 e11
  refine qai ?_
  have hfl := (hG.perm ltI_irr ltI_tr hF.nodup).length_eq
  refine qak (loop6a hX ho hfl hl80 (by simp) (fun P hP => by simp [hP]) hGl e2 e7 e8 e9 e10 e11 H3 ?_)
  clear e2 e7 e8 e9 e10 e11 fr
  intro fr e2 e7 e8 e9 e10
  refine qai ?_
  have si := (H3.own (sz := 3) (v := iv) (n := L.length) (cs := L.flatMap eI) (by simp)).slc
  refine W_assoc ?_
  refine qak (qan [2, 7, 8, 9, 52] ?_)
  simp only [o6_12, qar, WO_bu, qah, bin_neq, qaj, qag, qad, qaf, qab, qaa, qac, List.map_cons, List.map_nil, Nat.reduceEqDiff, ↓reduceIte, Bool.not_true, decide_true, eq_self, e2, e7, e8, e9, e10, si.len]
  clear e2 e7 e8 e9 e10
  intro fr e2 e7 e8 e9 e52
  refine qai ?_
  refine qak (W_cond e52 (fun h => by cases h) (fun _ => W_skip (qai ?_)))
  clear si
  refine qak (qan [2, 7, 8, 9] ?_)
  simp only [o6_14, qar, qah, bin_add, bin_rem, qaj, qag, qad, qaf, qab, qaa, qac, Nat.reduceEqDiff, ↓reduceIte, eq_self, e2, e7, e8, e9, if_neg hB0, qam (n := turn.tmod n + n) (by omega) (by omega), ht]
  clear e2 e7 e8 e9 e52
  intro fr e2 e7 e8 e9
  refine qai ?_
  refine qak (qan [2, 7, 8, 9, 12] ?_)
  simp only [o6_15, qah, qaj, qad, qae, qab, qaa, qac, Nat.reduceEqDiff, ↓reduceIte, eq_self, e2, e7, e8, e9]
  clear e2 e7 e8 e9
  intro fr e2 e7 e8 e9 e12
  refine qai ?_
  refine W_assoc ?_
  refine qak (qan [2, 7, 8, 9, 12, 13] ?_)
  simp only [o6_16, qah, qaj, qad, qae, qab, qaa, qac, Nat.reduceEqDiff, ↓reduceIte, eq_self, e2, e7, e8, e9, e12]
  clear e2 e7 e8 e9 e12
  intro fr e2 e7 e8 e9 e12 e13
  refine qai ?_
  refine qak (loop6b hX ho hF hn1.1 htn (by simp) e2 e7 e8 e9 e12 e13 H3 ?_)
  clear e2 e7 e8 e9 e12 e13 fr H3 s3
  intro fr s3 tv l' e2 e7 e8 e9 e12 hsub H3
  refine qai ?_
  have hFr := hF.rot htn
  have hwR : ∀ x ∈ L.map (rotI n t), wI x := fun x hx => (hFr.sm x hx).w hF.hn
  have hll : (L.map (rotI n t)).length = L.length := List.length_map ..
  rw [← hll] at H3
  have st := (H3.own (sz := 3) (v := tv) (n := (L.map (rotI n t)).length) (cs := (L.map (rotI n t)).flatMap eI) (by simp)).slc
  refine qak (qan [7, 8, 9, 12, 15] ?_)
  simp only [o6_23, WO_call, qah, qad, qaf, List.map_cons, List.map_nil, Nat.reduceEqDiff, ↓reduceIte, eq_self, e7, e12]
  refine CallK_of (run17 hX ho hA38 H3 st (by omega) (by omega) hwR) ?_
  rintro hv s4 ⟨G', hP', -, H4⟩
  simp only [qah, qaj, qad, qaf, qab, qaa, qac, Nat.reduceEqDiff, ↓reduceIte, eq_self, e7, e8, e9, e12]
  clear e2 e7 e8 e9 e12
  intro fr e7 e8 e9 e12 e15
  refine qai ?_
  have hH := hFr.parts hP'
  clear hP' st H3 s3
  refine W_assoc ?_
  refine qak (qan [7, 8, 9, 12, 15, 16] ?_)
  simp only [o6_24, qah, qaj, qad, qae, qab, qaa, qac, Nat.reduceEqDiff, ↓reduceIte, eq_self, e7, e8, e9, e12, e15]
  clear e7 e8 e9 e12 e15
  intro fr e7 e8 e9 e12 e15 e16
  refine qai ?_
  have m1 : ∀ P, P ∈ l' → P ∈ HP.own 1 hv G'.length (G'.map (·.1)) :: (rowsHP G' ++ HP.own 3 tv (L.map (rotI n t)).length ((L.map (rotI n t)).flatMap eI) :: l') := fun P hP => by simp [hP]
  refine qak (loop6d hX ho hF htn hG hH (m1 _ (hsub _ (by simp))) (by simp) (m1 _ (hsub _ (by simp))) (fun P hP => m1 _ (hsub _ (by simp [hP]))) (by simp) (fun P hP => by simp [hP]) e7 e8 e9 e12 e15 e16 H4 ?_)
  clear e7 e8 e9 e12 e15 e16 fr
  intro fr s5
  refine qai ?_
  refine qak (qan [6] ?_)
  simp only [o6_40, WO_call, List.map_nil]
  refine CallK_eq (Call_orc hw) ?_
  simp only [qah, qaj, qad, qaf, qab, qaa, qac, ↓reduceIte, eq_self]
  intro fr e6
  refine qai ?_
  exact W_ret (Ret1 e6 rfl)
end Go.Proofs.Ytpphomoijlilfaa.G

/- Peaks: what is known of calls; spots as arguments. -/
namespace Go.Proofs.Ytpphomoijlilfaa.G
open Go Go.Vam Go.Hang
theorem run38 {s : Mm} {x y : SpI} : CallP ⟨fun _ _ => none, fnsOf Try.prog⟩ 38 [sI x, sI y] s (fun r _ => r = .int .i64 (ahZ x y)) := by
  have hbx : ∀ x : SpI, (sI x).cells.toList = eI x := fun _ => rfl
  refine CallP_of (X := ⟨fun _ _ => none, fnsOf Try.prog⟩) ir38_eq rfl (Nat.le_of_ble_eq_true rfl) ?_
  refine qak (qan [2, 3] ?_)
  simp only [o38_0, WO_box, nxt_new, qah, qaj, qad, frame_nil, frame_cons, qaf, qae, qab, qaa, qac, Nat.reduceEqDiff, Nat.reduceAdd, ↓reduceIte, eq_self, Nat.zero_add, hbx]
  intro fr e2 e3
  refine qai ?_
  have H := ((Hold.refl s).new (eI x)).new (eI y)
  have hx : (newAt s (.cells (eI x) false)).nxt = s.nxt + 1 := rfl
  rw [hx] at H
  generalize newAt (newAt s (.cells (eI x) false)) (.cells (eI y) false) = s1 at H ⊢
  have x0 : loadV s1 none (.pointer (some ⟨s.nxt, 0, none⟩)) = some (.int .i64 x.1) := load_g (o := 0) (H.cell (cs := eI x) (by simp))
  have x1 : loadV s1 none (.pointer (some ⟨s.nxt, 1, none⟩)) = some (.int .i64 x.2.1) := load_g (o := 1) (H.cell (cs := eI x) (by simp))
  have y0 : loadV s1 none (.pointer (some ⟨s.nxt + 1, 0, none⟩)) = some (.int .i64 y.1) := load_g (o := 0) (H.cell (cs := eI y) (by simp))
  have y1 : loadV s1 none (.pointer (some ⟨s.nxt + 1, 1, none⟩)) = some (.int .i64 y.2.1) := load_g (o := 1) (H.cell (cs := eI y) (by simp))
  refine W_assoc ?_
  cases h1 : decide (x.1 = y.1) with
  | true =>
    refine qak (qan [2, 3, 9] ?_)
    simp only [o38_1, qar, WO_fieldAddr, fieldAddr_p, WO_load, bin_neq, qaj, qag, qad, qaf, qab, qaa, qac, Nat.reduceEqDiff, ↓reduceIte, Bool.not_true, eq_self, Nat.add_zero, e2, e3, x0, y0, h1]
    clear e2 e3
    intro fr e2 e3 e9
    refine qai ?_
    refine qak (W_cond e9 (fun h => by cases h) (fun _ => W_skip (qai ?_)))
    refine qak (qan [4] ?_)
    simp only [o38_3, qar, WO_fieldAddr, fieldAddr_p, WO_load, qah, bin_sub, qaj, qag, qad, qaf, qab, qaa, qac, Nat.reduceEqDiff, ↓reduceIte, eq_self, Nat.zero_add, e2, e3, x1, y1]
    clear e2 e3 e9
    intro fr e4
    refine qai ?_
    refine W_ret (Ret1 e4 ?_)
    rw [ahZ, if_pos (of_decide_eq_true h1)]
  | false =>
    refine qak (qan [2, 3, 9] ?_)
    simp only [o38_1, qar, WO_fieldAddr, fieldAddr_p, WO_load, bin_neq, qaj, qag, qad, qaf, qab, qaa, qac, Nat.reduceEqDiff, ↓reduceIte, Bool.not_false, eq_self, Nat.add_zero, e2, e3, x0, y0, h1]
    clear e2 e3
    intro fr e2 e3 e9
    refine qai ?_
    refine qak (W_cond e9 (fun _ => ?_) (fun h => by cases h))
    refine qak (qan [4] ?_)
    simp only [o38_2, qar, WO_fieldAddr, fieldAddr_p, WO_load, qah, bin_sub, qaj, qag, qad, qaf, qab, qaa, qac, Nat.reduceEqDiff, ↓reduceIte, eq_self, Nat.add_zero, e2, e3, x0, y0]
    clear e2 e3 e9
    intro fr e4
    refine qai ?_
    refine W_ret (SeqK_r (Ret1 e4 ?_))
    rw [ahZ, if_neg (of_decide_eq_false h1)]
def spotOf : Value → Option SpI
  | .agg cs => match cs.toList with
    | [.int .i64 a, .int .i64 b, .float .f64 p] => some (a, b, p)
    | _ => none
  | _ => none
theorem spotOf_sI (x : SpI) : spotOf (sI x) = some x := rfl
theorem spotOf_eq {v : Value} {x : SpI} (h : spotOf v = some x) : v = sI x := by
  unfold spotOf at h
  split at h
  · rename_i cs
    split at h
    · rename_i a b p e
      cases h
      obtain ⟨l⟩ := cs
      simp only at e
      subst e
      rfl
    · cases h
  · cases h
def orcA (f : FuncId) (args : List Value) : Option Value :=
  if f = 38 then (match args with
    | [v, w] => (match spotOf v, spotOf w with
      | some x, some y => some (.int .i64 (ahZ x y))
      | _, _ => none)
    | _ => none)
  else orcW 15 f args
theorem orcA_38 (x y : SpI) : orcA 38 [sI x, sI y] = some (.int .i64 (ahZ x y)) := by
  unfold orcA
  rw [if_pos rfl]
  simp only [spotOf_sI]
theorem orcA_15 : orcA 15 [] = some (.bool true) := by
  unfold orcA
  rw [if_neg (by decide)]
  exact orcW_self 15
theorem orcA_other {f : FuncId} (args : List Value) (h : f ≠ 15 ∧ f ≠ 38) : orcA f args = none := by
  unfold orcA
  rw [if_neg h.2]
  exact orcW_other h.1 args
theorem sI_VR {ρ ρ' : Rho} {x : SpI} {v : Value} (h : VR ρ (sI x) v) : VR ρ' (sI x) v := by
  unfold sI at h ⊢
  cases h with
  | agg hl h =>
    refine .agg hl fun i u u' hu hu' => ?_
    have h1 := h i u u' hu hu'
    match i, hu with
    | 0, hu => cases hu; cases h1; exact .int _ _
    | 1, hu => cases hu; cases h1; exact .int _ _
    | 2, hu => cases hu; cases h1; exact .float (by assumption)
theorem sI_VL {ρ ρ' : Rho} {x y : SpI} {vs : List Value} (h : VL ρ [sI x, sI y] vs) : VL ρ' [sI x, sI y] vs :=
  ⟨h.1, fun i v v' hv hv' => by
    have h1 := h.2 i v v' hv hv'
    match i, hv with
    | 0, hv => cases hv; exact sI_VR h1
    | 1, hv => cases hv; exact sI_VR h1⟩
theorem rep_no (w : World) : Rep (fun _ => none) noBlk w :=
  ⟨fun _ _ hB => (nomatch hB), fun _ _ _ _ hB => absurd hB (by rintro ⟨k, hk, _⟩; cases hk), fun _ _ => rfl, fun _ _ hB => (nomatch hB)⟩
theorem orcA_ok (hw : endsTrue (evCall (Trie Value) (fnsOf Try.prog) 100000 15 [] none0) = true) : OrcOk Try.prog orcA := by
  intro g args v hv
  by_cases hg : g = 38
  · subst hg
    unfold orcA at hv
    rw [if_pos rfl] at hv
    split at hv
    · rename_i a b
      split at hv
      · rename_i x y hx hy
        have ex := spotOf_eq hx
        have ey := spotOf_eq hy
        subst ex ey
        cases hv
        refine ⟨?_, fun ρ args' w hargs => ?_⟩
        · obtain ⟨fn, h1, h2, h3⟩ := fnsOf_ok Try.prog 38 ir38 ir38_eq
          refine ⟨fn, h1, ?_, h3⟩
          unfold compFn at h2
          split at h2
          · rename_i hb; rw [hb]; rfl
          · cases h2
        · obtain ⟨v, s', ⟨n, hev⟩, rfl⟩ := run38 (s := noBlk) (x := x) (y := y)
          obtain ⟨_, hc⟩ := evX_sound ext mixed (fnsOf_ok Try.prog) (orc := fun _ _ => none) (fun _ _ _ h => by cases h) n 38 [sI x, sI y] noBlk _ s' hev (fun _ => none) w args' (sI_VL hargs) (rep_no w)
          refine hc.mono fun e w' he => ?_
          obtain ⟨ρ', v', rfl, h1, _, h3⟩ := he
          cases h1
          exact ⟨_, rfl, .int _ _, h3.below fun _ => (by rintro ⟨k, hk, _⟩; cases hk)⟩
      · cases hv
    · cases hv
  · unfold orcA at hv
    rw [if_neg hg] at hv
    exact orcW_ok ext mixed 100000 15 hw g args v hv
theorem wf64 {n : Int} (h : (Lit.int .i64 n).wf = true) : -9223372036854775808 ≤ n ∧ n ≤ 9223372036854775807 := by
  simp only [Lit.wf, Bool.and_eq_true, decide_eq_true_eq] at h
  exact h
set_option maxRecDepth 100000 in
theorem spot_openW {T : Type} {s : Mm} {l : List Value} {d : DataW T} (h : Abs Try.prog s 29 l d) : ∃ x : SpI, l = eI x ∧ wI x := by
  obtain ⟨ds, _, h1, h2, h3⟩ := Abs.st Try.underlying29 h
  rw [c29] at h1
  obtain ⟨a, b, c, rfl⟩ := three h1
  obtain ⟨d0, d1, d2, rfl⟩ := three h2
  have g0 := h3 0 _ d0 rfl rfl
  have g1 := h3 1 _ d1 rfl rfl
  have g2 := h3 2 _ d2 rfl rfl
  simp only [c3, c24] at g0 g1 g2
  obtain ⟨n0, k0, _, w0⟩ := Abs.i Try.underlying3 g0
  obtain ⟨n1, k1, _, w1⟩ := Abs.i Try.underlying3 g1
  obtain ⟨n2, k2, _, k3⟩ := Abs.f Try.underlying24 g2
  simp only [List.drop_zero, List.drop_succ_cons, List.take_succ_cons, List.take_zero, List.cons.injEq, and_true] at k0 k1 k2
  subst k0 k1 k2
  exact ⟨(n0, n1, n2), rfl, wf64 w0, wf64 w1⟩
set_option maxRecDepth 100000 in
theorem spots_openW {T : Type} {s : Mm} (hs : Lt s) {v : Value} {d : DataW T} (h : AbsV Try.prog s 25 v d) : ∃ L : List SpI, SlC s 3 v L.length (L.flatMap eI) ∧ L.length ≤ Rows.uptoBulk d ∧ ∀ x ∈ L, wI x := by
  unfold AbsV at h
  rw [Try.underlying25] at h
  obtain ⟨w, ls, ds, h1, h2, h3, h4, h5⟩ := Abs.slW hs Try.underlying25 c29 (by decide) h
  cases h1
  obtain ⟨xs, h6, h7⟩ := lists_of (g := eI) (p := fun x : SpI => wI x) ls ds h3 (fun i l d hl hd => spot_openW (h5 i l d hl hd).2)
  subst h6
  rw [List.length_map] at h2 h3
  refine ⟨xs, h2, ?_, h7⟩
  rcases h4 with h4 | ⟨rest, h4⟩
  · subst h4; simp only [List.length_nil] at h3; omega
  · subst h4; rw [← h3]; exact (bulk (H := T)).len ds rest
end Go.Proofs.Ytpphomoijlilfaa.G

/- Peaks: the law of parts: its run at any arguments. -/
namespace Go.Proofs.Ytpphomoijlilfaa.G
open Go Go.Vam Go.Hang
set_option maxRecDepth 100000 in
theorem runPeaksParts {T : Type} {s : Mm} {avs : List Value} {ds : List (DataW T)} (hs : Lt s) (h : AbsL Try.prog s [25, 5, 3] avs ds) : CallP ⟨orcA, fnsOf Try.prog⟩ 6 avs s (fun v _ => v = .bool true) := by
  obtain ⟨v0, vs, d0, ds, rfl, rfl, h0, h⟩ := AbsL.cons h
  obtain ⟨v1, vs, d1, ds, rfl, rfl, h1, h⟩ := AbsL.cons h
  obtain ⟨v2, vs, d2, ds, rfl, rfl, h2, h⟩ := AbsL.cons h
  obtain ⟨rfl, rfl⟩ := AbsL.nil h
  obtain ⟨L, g1, _, _⟩ := spots_openW hs h0
  unfold AbsV at h1 h2
  rw [Try.underlying5] at h1
  rw [Try.underlying3] at h2
  obtain ⟨b, k1, _, w1⟩ := Abs.i Try.underlying5 h1
  obtain ⟨n, k2, _, _⟩ := Abs.i Try.underlying3 h2
  cases k1
  cases k2
  have hb : 0 ≤ b ∧ b ≤ 255 := by
    simp only [Lit.wf, IntKind.min, IntKind.max, IntKind.bits, IntKind.signed] at w1
    simpa using w1
  obtain ⟨b, rfl⟩ := Int.eq_ofNat_of_zero_le hb.1
  exact run6 (X := ⟨orcA, fnsOf Try.prog⟩) rfl (fun f args hf => orcA_other args hf) orcA_15 orcA_38 g1 (by omega)
end Go.Proofs.Ytpphomoijlilfaa.G
