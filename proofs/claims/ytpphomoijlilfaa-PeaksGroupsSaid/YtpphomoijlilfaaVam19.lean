/- A region that draws its order: whatever order is drawn, the run in the order of the text tells what it leaves. -/
import Derived.Test.YtpphomoijlilfaaVam18
namespace Go.Vam
open Go
section
variable {F H : Type} [Store F Value] [Store H ABlk]
theorem omap_congr {fr fr' : F} {x : Option Operand} (h : ∀ y ∈ x.toList, evO fr y = evO fr' y) : x.map (evO fr) = x.map (evO fr') := by
  cases x with
  | none => rfl
  | some x => simp only [Option.map_some]; rw [h x (by simp)]
theorem pureV_congr {fr fr' : F} (op : AOp) (h : ∀ x ∈ op.operands, evO fr x = evO fr' x) : pureV fr op = pureV fr' op := by
  cases op <;> simp only [AOp.operands, List.mem_cons, List.not_mem_nil, or_false, forall_eq_or_imp, forall_eq] at h <;> simp only [pureV]
  case move => rw [h]
  case pick => rw [h.1, h.2.1, h.2.2]
  case bin => rw [h.1, h.2]
  case eq => rw [h.1, h.2]
  case un => rw [h]
  case conv => rw [h]
  case nilCheck => rw [h]
  case extract => rw [h]
  case field => rw [h]
  case fieldAddr => rw [h]
  case addrArr => rw [h.1, h.2]
  case addrSl => rw [h.1, h.2]
  case idxArr => rw [h.1, h.2]
  case idxStr => rw [h.1, h.2]
  case slStr x lo hi =>
    obtain ⟨h0, h1⟩ := h
    rw [h0, omap_congr (x := lo) fun y hy => h1 y (by simp [hy]), omap_congr (x := hi) fun y hy => h1 y (by simp [hy])]
  case slSl sz x lo hi mx =>
    obtain ⟨h0, h1⟩ := h
    rw [h0, omap_congr (x := lo) fun y hy => h1 y (by simp [hy]), omap_congr (x := hi) fun y hy => h1 y (by simp [hy]), omap_congr (x := mx) fun y hy => h1 y (by simp [hy])]
  case slArr n sz x lo hi mx =>
    obtain ⟨h0, h1⟩ := h
    rw [h0, omap_congr (x := lo) fun y hy => h1 y (by simp [hy]), omap_congr (x := hi) fun y hy => h1 y (by simp [hy]), omap_congr (x := mx) fun y hy => h1 y (by simp [hy])]
  case build z ps =>
    have : ps.map (fun p => (p.1, p.2.1, evO fr p.2.2)) = ps.map (fun p => (p.1, p.2.1, evO fr' p.2.2)) := List.map_congr_left fun p hp => by
      rw [h p.2.2 (List.mem_map.2 ⟨p, hp, rfl⟩)]
    rw [this]
  case mkFunc fn f c =>
    rw [List.map_congr_left (l := f) fun x hx => h x (by simp [hx]), List.map_congr_left (l := c) fun x hx => h x (by simp [hx])]
  case mkIface => rw [h]
  case bu b xs => rw [List.map_congr_left fun x hx => h x hx]
theorem readV_congr {fr fr' : F} {s : AS H} (op : AOp) (h : ∀ x ∈ op.operands, evO fr x = evO fr' x) : readV fr s op = readV fr' s op := by
  cases op <;> simp only [AOp.operands, List.mem_cons, List.not_mem_nil, or_false, forall_eq_or_imp, forall_eq] at h <;> simp only [readV]
  case load => rw [h]
  case text => rw [h]
  case lookup => rw [h.1, h.2]
  case lenMap => rw [h]
theorem newV_congr {fr fr' : F} {id : Nat} (op : AOp) (h : ∀ x ∈ op.operands, evO fr x = evO fr' x) : newV fr id op = newV fr' id op := by
  cases op <;> simp only [AOp.operands, List.mem_cons, List.not_mem_nil, or_false, forall_eq_or_imp, forall_eq] at h <;> simp only [newV]
  case box => rw [h]
  case buildSlice e sz z len ps =>
    have : ps.map (fun p => (p.1 * sz, sz, evO fr p.2)) = ps.map (fun p => (p.1 * sz, sz, evO fr' p.2)) := List.map_congr_left fun p hp => by
      rw [h p.2 (List.mem_map.2 ⟨p, hp, rfl⟩)]
    rw [this]
  case makeSlice => rw [h.1, h.2]
theorem actV_congr {cf : CallF H} {fr fr' : F} {s : AS H} (op : AOp) (h : ∀ x ∈ op.operands, evO fr x = evO fr' x) : actV cf fr s op = actV cf fr' s op := by
  cases op <;> simp only [AOp.operands, List.mem_cons, List.not_mem_nil, or_false, forall_eq_or_imp, forall_eq] at h <;> simp only [actV]
  case store => rw [h.1, h.2]
  case mapPut => rw [h.1, h.2.1, h.2.2]
  case mapDel => rw [h.1, h.2]
  case append => rw [h.1, h.2]
  case copy => rw [h.1, h.2]
  case bytes => rw [h]
  case strish => rw [h]
  case ext e f xs => rw [List.map_congr_left fun x hx => h x hx]
  case call f xs => rw [h.1, List.map_congr_left fun x hx => h.2 x hx]
def sel (fr : F) : List Tmp → F
  | [] => (Store.emp : F)
  | t :: l => Store.put (sel fr l) t (some (geT fr t))
theorem sel_get (fr : F) (l : List Tmp) (t : Tmp) : geT (sel fr l) t = if t ∈ l then geT fr t else undefV := by
  induction l with
  | nil => simp [sel, geT, Store.get_emp]
  | cons u l ih =>
    simp only [sel, geT, Store.get_put]
    by_cases e : t = u
    · subst e; simp
    · rw [if_neg e]
      simp only [List.mem_cons, e, false_or]
      exact ih
def selA (a : Act) (nt : Nat) (l : List Tmp) : Act := { tmps := (Array.range nt).map fun t => if t ∈ l then a.tmps.getD t undef else undef, defers := a.defers }
theorem selA_get (a : Act) (nt : Nat) (l : List Tmp) (t : Tmp) (ht : t < nt) : (selA a nt l).tmps.getD t undef = if t ∈ l then a.tmps.getD t undef else undef := by
  simp [selA, Array.getD, ht]
theorem mem_tmps {t : Tmp} {l : List Operand} : t ∈ tmpsOf l ↔ Operand.tmp t ∈ l := by
  unfold tmpsOf
  rw [List.mem_filterMap]
  constructor
  · rintro ⟨x, h1, h2⟩
    cases x <;> simp at h2
    subst h2; exact h1
  · intro h; exact ⟨_, h, rfl⟩
theorem evO_sel {fr : F} {l : List Tmp} {x : Operand} (h : ∀ t, x = .tmp t → t ∈ l) : evO (sel fr l) x = evO fr x := by
  cases x with
  | tmp t => simp only [evO, sel_get]; rw [if_pos (h t rfl)]
  | _ => rfl
end
end Go.Vam
