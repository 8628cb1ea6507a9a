/- What is handed in: from the kit's reading of it to abstract memory. -/
import Derived.Test.YtpphomoijlilfaaVam27
namespace Go.Vam
open Go
section
variable {P : Program} {w : World}
theorem mapM_range_some {α : Type} {f : Nat → Option α} : ∀ (is : List Nat) {l : List α}, is.mapM f = some l → l.length = is.length ∧ ∀ (j i : Nat) (x : α), is[j]? = some i → l[j]? = some x → f i = some x := by
  intro is
  induction is with
  | nil => intro l h; simp at h; subst h; exact ⟨rfl, fun j i x h => by simp at h⟩
  | cons i is ih =>
    intro l h
    obtain ⟨y, ys, h1, h2, rfl⟩ := mapM_cons_some h
    obtain ⟨g1, g2⟩ := ih h2
    refine ⟨by simp [g1], fun j k x hj hx => ?_⟩
    cases j with
    | zero => simp at hj hx; subst hj; subst hx; exact h1
    | succ j => simp at hj hx; exact g2 j k x hj hx
theorem add_none' (b off i : Nat) : Addr.add ⟨b, off, none⟩ i = ⟨b, off + i, none⟩ := by
  unfold Addr.add; split
  · rename_i h0; subst h0; rfl
  · rfl
theorem cells_read {base : Nat} {a : Addr} {n : Nat} {l : List Value} (hn : 1 ≤ n) (h : w.cells? base a n = some l) :
    a.spot = none ∧ ∃ (c : Array Value) (e : TypeId) (fz : Nat × Nat), w.heap[a.block]? = some (.cells c e fz) ∧ a.off + n ≤ c.size ∧ l = (c.toList.drop a.off).take n := by
  unfold World.cells? at h
  split at h
  case isFalse => cases h
  obtain ⟨hl, hg⟩ := mapM_range_some _ h
  simp at hl
  obtain ⟨b, off, sp⟩ := a
  have h0 : w.cell? (Addr.add ⟨b, off, sp⟩ 0) = some (l[0]'(by omega)) := hg 0 0 (l[0]'(by omega)) (List.getElem?_range (by omega)) (List.getElem?_eq_getElem (by omega))
  have ha0 : Addr.add ⟨b, off, sp⟩ 0 = ⟨b, off, sp⟩ := by unfold Addr.add; simp
  rw [ha0] at h0
  unfold World.cell? at h0
  simp only at h0
  split at h0
  case h_2 => cases h0
  rename_i c e fz hc
  split at h0
  case isTrue => cases h0
  rename_i hsp
  have hsp : sp = none := by cases sp <;> simp_all
  subst hsp
  have hcell : ∀ i, i < n → c[off + i]? = l[i]? := fun i hi => by
    have := hg i i l[i] (by simp [hi]) (List.getElem?_eq_getElem (by omega))
    rw [add_none', cell_get hc] at this
    rw [this, List.getElem?_eq_getElem (by omega)]
  have hsz : off + n ≤ c.size := by
    have := hcell (n - 1) (by omega)
    rw [List.getElem?_eq_getElem (by omega : n - 1 < l.length)] at this
    have := (Array.getElem?_eq_some_iff.1 this).1
    omega
  refine ⟨rfl, c, e, fz, hc, hsz, ?_⟩
  apply List.ext_getElem?
  intro i
  rw [List.getElem?_take, List.getElem?_drop]
  by_cases hi : i < n
  · rw [if_pos hi]
    show l[i]? = c.toList[off + i]?
    rw [Array.getElem?_toList (xs := c), hcell i hi]
  · rw [if_neg hi]
    exact List.getElem?_eq_none (by omega)
theorem flatten_rows (c : List Value) (off sz : Nat) : ∀ (ccs : List (List Value)) (k : Nat), (∀ j l, ccs[j]? = some l → l = (c.drop (off + (k + j) * sz)).take sz) → (∀ j, j < ccs.length → off + (k + j + 1) * sz ≤ c.length) →
    ccs.flatten = (c.drop (off + k * sz)).take (ccs.length * sz) := by
  intro ccs
  induction ccs with
  | nil => intro k _ _; simp
  | cons r ccs ih =>
    intro k h hl
    have h0 := h 0 r rfl
    have ih' := ih (k + 1) (fun j l hj => by
      have := h (j + 1) l (by simpa using hj)
      rw [show k + (j + 1) = k + 1 + j by omega] at this
      exact this) (fun j hj => by
      have := hl (j + 1) (by simp; omega)
      have e : k + (j + 1) + 1 = k + 1 + j + 1 := by omega
      rw [e] at this; exact this)
    simp only [List.flatten_cons, List.length_cons, ih', Nat.add_mul, Nat.one_mul]
    rw [h0]
    simp only [Nat.add_zero]
    apply List.ext_getElem?
    intro i
    have hl0 := hl 0 (by simp)
    simp only [Nat.add_mul, Nat.one_mul, Nat.add_zero] at hl0
    by_cases hi : i < sz
    · rw [List.getElem?_append_left (by simp; omega), List.getElem?_take, if_pos hi, List.getElem?_take, if_pos (by omega)]
    · rw [List.getElem?_append_right (by simp; omega)]
      simp only [List.length_take, List.length_drop]
      have e : min sz (c.length - (off + k * sz)) = sz := by omega
      rw [e, List.getElem?_take, List.getElem?_take, List.getElem?_drop, List.getElem?_drop]
      by_cases h2 : i - sz < ccs.length * sz
      · rw [if_pos h2, if_pos (by omega)]; congr 1; omega
      · rw [if_neg h2, if_neg (by omega)]
end
end Go.Vam
