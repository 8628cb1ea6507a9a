/- Tables whose rows are lent slices with two marks; an element of some cells stored. -/
import Derived.Test.YtfjdihfflghfpaaSI
import Derived.Test.YtfjdihfflghfpaaCfCIr
namespace Go.Vam
open Go

variable {s s' s0 : Mm}

/-- A slice that is lent: a mark lies behind its end. -/
def Lent2 (s : Mm) (sz : Nat) (c : Value) (n : Nat) (cs mark : List Value) : Prop := ∃ room, Own s sz room (n + 2) (cs ++ mark) ∧ c = subS sz room 0 n

theorem Lent2.same {sz n : Nat} {c : Value} {cs mark : List Value} {F : Nat → Prop} (h : Lent2 s sz c n cs mark) (g : Same s s' F) (hF : ∀ B, footV c B → ¬ F B) : Lent2 s' sz c n cs mark := by
  obtain ⟨room, h1, rfl⟩ := h
  exact ⟨room, h1.same g (fun B hB => hF B ((h1.lent_foot (by omega) (by omega) B).2 hB)), rfl⟩

theorem Lent2.slc {sz n : Nat} {c : Value} {cs mark : List Value} (h : Lent2 s sz c n cs mark) (hl : cs.length = n * sz) : SlC s sz c n cs := by
  obtain ⟨room, h1, rfl⟩ := h
  have := h1.slc.sub (Nat.zero_le n) (Nat.le_add_right n 2)
  rw [Nat.sub_zero, Nat.zero_mul, List.drop_zero, ← hl, List.take_left] at this
  exact this

theorem Lent2.one {sz n : Nat} {c : Value} {cs mark : List Value} (h : Lent2 s sz c n cs mark) (hl : cs.length = n * sz) : oneCell c = true := (h.slc hl).one

/-- Opened again, the mark is read. -/
theorem Lent2.mark {sz n : Nat} {c : Value} {cs mark : List Value} (h : Lent2 s sz c n cs mark) {k : IntKind} {i : Int} (hi : i = (n : Nat) + 2) : ∃ room, slV sz c none (some (.int k i)) none = some room ∧ SlC s sz room (n + 2) (cs ++ mark) := by
  obtain ⟨room, h1, rfl⟩ := h
  exact ⟨room, h1.lent (Nat.le_add_right n 2) (by omega), h1.slc⟩

theorem Lent2.foot {sz n : Nat} {c : Value} {cs mark : List Value} (h : Lent2 s sz c n cs mark) : ∀ B, footV c B → B < s.nxt := by
  obtain ⟨room, h1, rfl⟩ := h
  intro B hB
  exact h1.slc.foot B ((h1.lent_foot (by omega) (by omega) B).1 hB)

/-- A lent slice as a part. -/
def HP.lent2 (sz : Nat) (c : Value) (n : Nat) (cs mark : List Value) : HP where
  p s K := Lent2 s sz c n cs mark ∧ K = footV c
  loc := by rintro s s' K F ⟨h, rfl⟩ g hd; exact ⟨h.same g hd, rfl⟩

theorem Hold.lend2 {l : List HP} {sz n N : Nat} {room : Value} {cs mark : List Value} (h : Hold s0 s (HP.own sz room N (cs ++ mark) :: l)) (hN : N = n + 2) : Hold s0 s (HP.lent2 sz (subS sz room 0 n) n cs mark :: l) := by
  subst hN
  refine h.upd ?_
  rintro K ⟨h1, rfl⟩ h2
  exact ⟨_, ⟨⟨room, h1, rfl⟩, rfl⟩, .refl _ _, fun B hB => ⟨.inl ((h1.lent_foot (by omega) (by omega) B).1 hB), (h2 B ((h1.lent_foot (by omega) (by omega) B).1 hB)).1⟩⟩

theorem Hold.lent2 {l : List HP} {sz n : Nat} {c : Value} {cs mark : List Value} (h : Hold s0 s l) (hm : HP.lent2 sz c n cs mark ∈ l) : Lent2 s sz c n cs mark := by
  obtain ⟨K, ⟨a, _⟩, _⟩ := h.mem hm; exact a

/-- A table of lent rows. -/
def HP.tabL2 {α : Type} (sz : Nat) (e : α → List Value) (mark : List Value) (v : Value) (rows : List (List α)) : HP where
  p s K := ∃ rc : List Value, Own s 1 v rows.length rc ∧ (∀ B, footV v B → K B) ∧ (∀ B, K B → B < s.nxt) ∧
    ∀ (i : Nat) (r : List α), rows[i]? = some r → ∃ c, rc[i]? = some c ∧ Lent2 s sz c r.length (r.flatMap e) mark ∧ ∀ B, footV c B → K B ∧ ¬ footV v B
  loc := by
    rintro s s' K F ⟨cells, a, k, kl, b⟩ g hd
    exact ⟨cells, a.same g (fun x hx => hd x (k x hx)), k, fun B hB => Nat.lt_of_lt_of_le (kl B hB) g.nxt, fun i r h => let ⟨x, y, z, w⟩ := b i r h; ⟨x, y, z.same g (fun x hx => hd x (w x hx).1), w⟩⟩

theorem Hold.makeL2 {α : Type} {l : List HP} {v : Value} (sz : Nat) (e : α → List Value) (mark : List Value) (h : Hold s0 s (HP.own 1 v 0 [] :: l)) : Hold s0 s (HP.tabL2 sz e mark v [] :: l) := by
  refine h.upd ?_
  rintro K ⟨h1, rfl⟩ h2
  exact ⟨_, ⟨[], h1, fun B hB => hB, fun B hB => h1.slc.foot B hB, fun i r h => by simp at h⟩, .refl _ _, fun B hB => ⟨.inl hB, (h2 B hB).1⟩⟩

/-- One lent row more. -/
theorem Hold.pushL2 {α : Type} {l : List HP} {sz n bytes : Nat} {e : α → List Value} {mark : List Value} {v c xv : Value} {rows : List (List α)} {r : List α} (h : Hold s0 s (HP.lent2 sz c n (r.flatMap e) mark :: HP.tabL2 sz e mark v rows :: l)) (hn : n = r.length) (hc1 : oneCell c = true) (hx : srcCells s 1 xv = some (1, [c]))
    (hb : 0 < bytes) (hb2 : bytes ≤ 1048576) (hsize : (rows.length + 1) * bytes ≤ 140737488355328) :
    ∃ v' s', appendV s bytes 1 v xv = some (v', s') ∧ Hold s0 s' (HP.tabL2 sz e mark v' (rows ++ [r]) :: l) := by
  subst hn
  obtain ⟨hs, K1, ⟨hc, rfl⟩, h2, K, ⟨cells, a, k, kl, b⟩, h4, h5⟩ := h
  obtain ⟨v', s', ap, k1, k2, k3⟩ := a.append (bytes := bytes) hx rfl (by simp only [List.all_cons, hc1, List.all_nil, Bool.and_true]) (by omega) (by decide) hb hb2 hsize
  have hl : cells.length = rows.length := by have := a.length; omega
  refine ⟨v', s', ap, ?_⟩
  have hd : ∀ B, footV c B → ¬ K B := fun B hB hk => (h4 B hk).2 (.inr hB)
  have hfr : Sep s (fun B => (B < s0.nxt ∨ footV c B ∨ K B) ∨ s.nxt ≤ B) l := h5.anti (fun B hB hx => by
    rcases hx with (h | h | h) | h
    · exact .inl (.inl h)
    · exact .inl (.inr h)
    · exact .inr h
    · omega)
  have n0 := hs.nxt
  have hc' : Lent2 s' sz c r.length (r.flatMap e) mark := hc.same k2 (fun B hB hv => hd B hB (k B hv))
  refine ⟨hs.trans k2 (fun _ _ h => h) (fun B hB hv => (h4 B (k B hv)).2 (.inl hB)), fun B => K B ∨ footV c B ∨ footV v' B, ⟨cells ++ [c], by rw [List.length_append]; exact k1, fun B hB => .inr (.inr hB), ?_, ?_⟩, ?_, ?_⟩
  · rintro B (hB | hB | hB)
    · exact Nat.lt_of_lt_of_le (kl B hB) k2.nxt
    · exact hc'.foot B hB
    · exact k1.slc.foot B hB
  · intro i r' hi
    by_cases h1 : i < rows.length
    · rw [List.getElem?_append_left h1] at hi
      obtain ⟨y, z, w, u⟩ := b i r' hi
      refine ⟨y, by rw [List.getElem?_append_left (by omega)]; exact z, w.same k2 (fun x hx => (u x hx).2), fun x hx => ⟨.inl (u x hx).1, fun hv => ?_⟩⟩
      rcases k3 x hv with h | h
      · exact (u x hx).2 h
      · have := kl x (u x hx).1; omega
    · rw [List.getElem?_append_right (by omega)] at hi
      have hi0 : i - rows.length = 0 := by
        rcases Nat.eq_zero_or_pos (i - rows.length) with h0 | h0
        · exact h0
        · rw [List.getElem?_eq_none (by simp; omega)] at hi; cases hi
      rw [hi0] at hi
      simp only [List.getElem?_cons_zero, Option.some.injEq] at hi
      subst hi
      refine ⟨c, by rw [List.getElem?_append_right (by omega), hl, hi0]; rfl, hc', fun x hx => ⟨.inr (.inl hx), fun hv => ?_⟩⟩
      rcases k3 x hv with h | h
      · exact hd x hx (k x h)
      · have := hc.foot x hx; omega
  · rintro B (hB | hB | hB)
    · exact ⟨Nat.lt_of_lt_of_le (kl B hB) k2.nxt, fun hr => (h4 B hB).2 (.inl hr)⟩
    · exact ⟨hc'.foot B hB, (h2 B hB).2⟩
    · refine ⟨k1.slc.foot B hB, fun hr => ?_⟩
      rcases k3 B hB with h | h
      · exact (h4 B (k B h)).2 (.inl hr)
      · omega
  · refine (hfr.frame k2 (fun B hB => .inl (.inr (.inr (k B hB))))).anti (fun B _ hx => ?_)
    rcases hx with h | h | h | h
    · exact .inl (.inl h)
    · exact .inl (.inr (.inr h))
    · exact .inl (.inr (.inl h))
    · rcases k3 B h with h | h
      · exact .inl (.inr (.inr (k B h)))
      · exact .inr h

/-- A table of lent rows may be read. -/
theorem Hold.tabL2 {α : Type} {l : List HP} {sz : Nat} {e : α → List Value} {mark : List Value} {v : Value} {rows : List (List α)} (h : Hold s0 s l) (hm : HP.tabL2 sz e mark v rows ∈ l) (he : ∀ r : List α, (r.flatMap e).length = r.length * sz) :
    TabE s sz e v rows ∧ oneCell v = true ∧ ∀ (i : Nat) (hi : i < rows.length), ∃ c, loadV s none (elP v i) = some c ∧ Lent2 s sz c rows[i].length (rows[i].flatMap e) mark := by
  obtain ⟨K, ⟨cells, a, k, kl, b⟩, _⟩ := h.mem hm
  refine ⟨⟨cells, a.slc, fun i r hr => let ⟨x, y, z, _⟩ := b i r hr; ⟨x, y, z.slc (he r)⟩⟩, a.one, fun i hi => ?_⟩
  obtain ⟨c, y, z, _⟩ := b i rows[i] (by simp [hi])
  exact ⟨c, a.slc.load y, z⟩



/-! ## Some cells of a slice of one's own are stored -/

theorem putL_left (cs rest : List Value) (o : Nat) (vs : List Value) (h : o + vs.length ≤ cs.length) : putL (cs ++ rest) o vs = putL cs o vs ++ rest := by
  refine List.ext_getElem? fun i => ?_
  have hl := putL_length cs o vs
  rw [putL_get _ _ _ _ (by rw [List.length_append]; omega)]
  by_cases hi : i < cs.length
  · rw [List.getElem?_append_left hi, List.getElem?_append_left (l₁ := putL cs o vs) (by omega), putL_get _ _ _ _ h]
  · rw [List.getElem?_append_right (l₁ := cs) (by omega), List.getElem?_append_right (l₁ := putL cs o vs) (by omega), hl, if_neg (by omega)]

/-- Behind what is stored all stays. -/
theorem putL_behind {cs : List Value} {o : Nat} {vs : List Value} {j : Nat} (h : o + vs.length ≤ cs.length) (hj : o + vs.length ≤ j) : (putL cs o vs)[j]? = cs[j]? := by
  rw [putL_get _ _ _ _ h, if_neg (by omega)]

theorem storen_g {B o n : Nat} {cs vs : List Value} {p : Bool} (hg : Store.get s.h B = some (.cells cs p)) (hv : vs.length = n) (hn : o + n ≤ cs.length) (h1 : vs.all oneCell = true) :
    storeV s n (.pointer (some ⟨B, o, none⟩)) (.agg vs.toArray) = some (undefV, setBlk s B (.cells (putL cs o vs) p)) := by
  have hc : (Value.agg vs.toArray).cells = vs.toArray := rfl
  simp only [storeV, hc, putCells, hg]
  rw [if_pos (by simpa using hv), if_neg (by simp), if_pos (by simp [hv, hn]), if_pos h1, Option.map_some]
  rfl

/-- An element of a slice of one's own is written. -/
theorem Hold.storeN {l : List HP} {sz n m k : Nat} {v : Value} {cs vs : List Value} (h : Hold s0 s (HP.own sz v n cs :: l)) (hv : vs.length = m) (hm : 0 < m) (hk : k + m ≤ cs.length) (h1 : vs.all oneCell = true) :
    ∃ s', storeV s m (elP v k) (.agg vs.toArray) = some (undefV, s') ∧ Hold s0 s' (HP.own sz v n (putL cs k vs) :: l) := by
  have key : ∃ s', storeV s m (elP v k) (.agg vs.toArray) = some (undefV, s') ∧ Own s' sz v n (putL cs k vs) ∧ Same s s' (footV v) := by
    have ho := h.own (List.mem_cons_self ..)
    cases ho with
    | nil => simp at hk; omega
    | @opn B n cs hg hB hl hz =>
      refine ⟨setBlk s B (.cells (putL cs k vs) true), ?_, ?_, .set rfl⟩
      · simp only [elP, add_none', Nat.zero_add]
        exact storen_g hg hv hk h1
      · exact .opn (by rw [get_set, if_pos rfl]) hB (by rw [putL_length]; exact hl) hz
    | @cap B n c cs rest hg hB hl hr hn hc =>
      refine ⟨setBlk s B (.cells (putL cs k vs ++ rest) false), ?_, ?_, .set rfl⟩
      · simp only [elP, add_none', Nat.zero_add]
        rw [storen_g hg hv (by simp; omega) h1, putL_left _ _ _ _ (by omega)]
      · exact .cap (by rw [get_set, if_pos rfl]) hB (by rw [putL_length]; exact hl) hr hn hc
  obtain ⟨s', st, k1, k2⟩ := key
  refine ⟨s', st, h.upd ?_⟩
  rintro K ⟨_, rfl⟩ _
  exact ⟨footV v, ⟨k1, rfl⟩, k2, fun B hB => ⟨.inl hB, k1.slc.foot B hB⟩⟩

end Go.Vam

/- Cfar: what a map tells; the program's Map, walked. -/
namespace Go.Proofs.Ytfjdihfflghfpaa
open Go Go.Vam Go.Sort

def eU (x : UInt64) : List Value := [.float .f64 x.toNat]
theorem eU_map (r : List UInt64) : r.flatMap eU = flT r := flatMap_one (fun x : UInt64 => Value.float .f64 x.toNat) r
theorem eU_len (r : List UInt64) : (r.flatMap eU).length = r.length * 1 := by rw [eU_map, flT_len, Nat.mul_one]

open Classical in
/-- What Line tells of a list. -/
noncomputable def lnB (L : List UInt64) (way g t nth : Int) (times : Nat) : List Bool := if h : ∃ bs, ∃ e, LnR L way g t nth times bs e then h.choose else []
open Classical in
noncomputable def lnE (L : List UInt64) (way g t nth : Int) (times : Nat) : Int := if h : ∃ e, ∃ bs, LnR L way g t nth times bs e then h.choose else 0

theorem LnR.isB {L : List UInt64} {way g t nth : Int} {times : Nat} {bs : List Bool} {e : Int} (h : LnR L way g t nth times bs e) : bs = lnB L way g t nth times := by
  have h1 : ∃ bs, ∃ e, LnR L way g t nth times bs e := ⟨_, _, h⟩
  obtain ⟨f, h2⟩ := h1.choose_spec
  rw [lnB, dif_pos h1]
  exact (h.same h2).2
theorem LnR.isE {L : List UInt64} {way g t nth : Int} {times : Nat} {bs : List Bool} {e : Int} (h : LnR L way g t nth times bs e) : e = lnE L way g t nth times := by
  have h1 : ∃ e, ∃ bs, LnR L way g t nth times bs e := ⟨_, _, h⟩
  obtain ⟨f, h2⟩ := h1.choose_spec
  rw [lnE, dif_pos h1]
  exact (h.same h2).1

/-- A spot: the row, the place, the number. -/
abbrev Sp := Nat × Nat × UInt64
def eSp (x : Sp) : List Value := [.int .i64 (x.1 : Nat), .int .i64 (x.2.1 : Nat), .float .f64 x.2.2.toNat]

/-- The spots of a row, as far as k. -/
def rowSp (i : Nat) (r : List UInt64) (bs : List Bool) : Nat → List Sp
  | 0 => []
  | k + 1 => rowSp i r bs k ++ (if bs[k]?.getD false = true then [(i, k, r[k]?.getD 0)] else [])
def rowAt (rows : List (List UInt64)) (i : Nat) : List UInt64 := rows[i]?.getD []
/-- The spots of the rows ahead of one. -/
def mapSp (B : List UInt64 → List Bool) (rows : List (List UInt64)) : Nat → List Sp
  | 0 => []
  | i + 1 => mapSp B rows i ++ rowSp i (rowAt rows i) (B (rowAt rows i)) (B (rowAt rows i)).length

theorem rowSp_mono {i : Nat} {r : List UInt64} {bs : List Bool} {k m : Nat} (h : k ≤ m) : (rowSp i r bs k).length ≤ (rowSp i r bs m).length := by
  induction m with
  | zero => obtain rfl : k = 0 := by omega
            exact Nat.le_refl _
  | succ m ih =>
    by_cases hk : k = m + 1
    · subst hk; exact Nat.le_refl _
    · have := ih (by omega)
      rw [rowSp, List.length_append]; omega
theorem mapSp_mono {B : List UInt64 → List Bool} {rows : List (List UInt64)} {i j : Nat} (h : i ≤ j) : (mapSp B rows i).length ≤ (mapSp B rows j).length := by
  induction j with
  | zero => obtain rfl : i = 0 := by omega
            exact Nat.le_refl _
  | succ j ih =>
    by_cases hk : i = j + 1
    · subst hk; exact Nat.le_refl _
    · have := ih (by omega)
      rw [mapSp, List.length_append]; omega

def tot (rows : List (List UInt64)) : Nat := (rows.map List.length).sum
theorem tot_succ {rows : List (List UInt64)} {k : Nat} (hk : k < rows.length) : tot (rows.take (k + 1)) = tot (rows.take k) + rows[k].length := by
  unfold tot
  rw [List.take_add_one, List.getElem?_eq_getElem hk, List.map_append, List.sum_append]
  rfl
theorem tot_le (rows : List (List UInt64)) (k : Nat) : tot (rows.take k) ≤ tot rows := by
  have h : tot rows = tot (rows.take k) + tot (rows.drop k) := by
    unfold tot
    rw [← List.sum_append, ← List.map_append, List.take_append_drop]
  omega

def bigM (rows : List (List UInt64)) : Prop := (∃ i, ∃ h : i < rows.length, 16384 < rows[i].length) ∨ 262144 < tot rows
def unE (rows : List (List UInt64)) : Prop := ∃ i, ∃ h : i < rows.length, rows[i].length ≠ (rowAt rows 0).length

/-- All spots of a map. -/
noncomputable def allSp (rows : List (List UInt64)) (way g t nth : Int) (times : Nat) (i : Nat) : List Sp := mapSp (fun r => lnB r way g t nth times) rows i

open Classical in
/-- What Map tells. -/
def MapR (rows : List (List UInt64)) (way g t nth : Int) (times : Nat) (sp : List Sp) (e : Int) : Prop :=
  if 256 < rows.length ∨ bigM rows then sp = [] ∧ e = 3
  else if unE rows then sp = [] ∧ e = 5
  else if lnE [] way g t nth times ≠ 0 then sp = [] ∧ e = lnE [] way g t nth times
  else if 4096 < (allSp rows way g t nth times rows.length).length then sp = [] ∧ e = 3
  else sp = allSp rows way g t nth times rows.length ∧ e = 0

theorem MapR.same {rows : List (List UInt64)} {way g t nth : Int} {times : Nat} {sp sq : List Sp} {e f : Int} (h1 : MapR rows way g t nth times sp e) (h2 : MapR rows way g t nth times sq f) : sp = sq ∧ e = f := by
  unfold MapR at h1 h2
  split at h1
  · rename_i h; rw [if_pos h] at h2; exact ⟨by rw [h1.1, h2.1], by rw [h1.2, h2.2]⟩
  · rename_i h; rw [if_neg h] at h2
    split at h1
    · rename_i h; rw [if_pos h] at h2; exact ⟨by rw [h1.1, h2.1], by rw [h1.2, h2.2]⟩
    · rename_i h; rw [if_neg h] at h2
      split at h1
      · rename_i h; rw [if_pos h] at h2; exact ⟨by rw [h1.1, h2.1], by rw [h1.2, h2.2]⟩
      · rename_i h; rw [if_neg h] at h2
        split at h1
        · rename_i h; rw [if_pos h] at h2; exact ⟨by rw [h1.1, h2.1], by rw [h1.2, h2.2]⟩
        · rename_i h; rw [if_neg h] at h2; exact ⟨by rw [h1.1, h2.1], by rw [h1.2, h2.2]⟩

theorem MapR.len {rows : List (List UInt64)} {way g t nth : Int} {times : Nat} {sp : List Sp} {e : Int} (h1 : MapR rows way g t nth times sp e) : sp.length ≤ 4096 := by
  unfold MapR at h1
  split at h1
  · rw [h1.1]; exact Nat.zero_le _
  · split at h1
    · rw [h1.1]; exact Nat.zero_le _
    · split at h1
      · rw [h1.1]; exact Nat.zero_le _
      · split at h1
        · rw [h1.1]; exact Nat.zero_le _
        · rename_i h; rw [h1.1]; omega

section
variable {rows : List (List UInt64)} {way g t nth : Int} {times : Nat}
theorem MapR.long (h : 256 < rows.length ∨ bigM rows) : MapR rows way g t nth times [] 3 := by unfold MapR; rw [if_pos h]; exact ⟨rfl, rfl⟩
theorem MapR.size (h : ¬ (256 < rows.length ∨ bigM rows)) (h2 : unE rows) : MapR rows way g t nth times [] 5 := by unfold MapR; rw [if_neg h, if_pos h2]; exact ⟨rfl, rfl⟩
theorem MapR.args (h : ¬ (256 < rows.length ∨ bigM rows)) (h2 : ¬ unE rows) (h3 : lnE [] way g t nth times ≠ 0) : MapR rows way g t nth times [] (lnE [] way g t nth times) := by unfold MapR; rw [if_neg h, if_neg h2, if_pos h3]; exact ⟨rfl, rfl⟩
theorem MapR.many (h : ¬ (256 < rows.length ∨ bigM rows)) (h2 : ¬ unE rows) (h3 : lnE [] way g t nth times = 0) {i k : Nat} (hi : i < rows.length) (hk : k < (lnB rows[i] way g t nth times).length) (hb : (lnB rows[i] way g t nth times)[k] = true)
    (hl : 4096 ≤ (allSp rows way g t nth times i ++ rowSp i rows[i] (lnB rows[i] way g t nth times) k).length) : MapR rows way g t nth times [] 3 := by
  unfold MapR; rw [if_neg h, if_neg h2, if_neg (by rw [h3]; simp), if_pos ?_]
  · exact ⟨rfl, rfl⟩
  · have e1 : rowAt rows i = rows[i] := by unfold rowAt; rw [List.getElem?_eq_getElem hi]; rfl
    have m1 := mapSp_mono (B := fun r => lnB r way g t nth times) (rows := rows) (show i + 1 ≤ rows.length by omega)
    have m2 := rowSp_mono (i := i) (r := rows[i]) (bs := lnB rows[i] way g t nth times) (show k + 1 ≤ (lnB rows[i] way g t nth times).length by omega)
    rw [mapSp, List.length_append, e1] at m1
    rw [rowSp, List.length_append, List.getElem?_eq_getElem hk, Option.getD_some, if_pos hb, List.length_singleton] at m2
    rw [List.length_append] at hl
    unfold allSp at hl ⊢
    omega
theorem MapR.all (h : ¬ (256 < rows.length ∨ bigM rows)) (h2 : ¬ unE rows) (h3 : lnE [] way g t nth times = 0) (h4 : (allSp rows way g t nth times rows.length).length ≤ 4096) : MapR rows way g t nth times (allSp rows way g t nth times rows.length) 0 := by
  unfold MapR; rw [if_neg h, if_neg h2, if_neg (by rw [h3]; simp), if_neg (by omega)]; exact ⟨rfl, rfl⟩
theorem allSp_succ {i : Nat} (hi : i < rows.length) : allSp rows way g t nth times (i + 1) = allSp rows way g t nth times i ++ rowSp i rows[i] (lnB rows[i] way g t nth times) (lnB rows[i] way g t nth times).length := by
  have e1 : rowAt rows i = rows[i] := by unfold rowAt; rw [List.getElem?_eq_getElem hi]; rfl
  unfold allSp
  rw [mapSp, e1]
end


set_option maxHeartbeats 4000000 in
theorem run26 {X : Ctx} (hX : X.fns = fnsOf Try.prog) (ho : ∀ f args, f ≠ 10 ∧ f ≠ 24 → X.orc f args = none) {s0 s : Mm} {l : List HP} {mv : Value} {rows : List (List UInt64)} {way g t nth : Int} {times : Nat} (H : Hold s0 s l) (hT : TabE s 1 eU mv rows) (hl : rows.length ≤ 1048576) (hn : ∀ r ∈ rows, r.length ≤ 1048576) (hwy : -128 ≤ way ∧ way ≤ 127) :
    CallP X 26 [mv, .int .i8 way, .int .i64 g, .int .i64 t, .int .i64 nth, .float .f64 times] s (fun r s' => ∃ av sp e, r = .tuple #[av, .int .i64 e] ∧ MapR rows way g t nth times sp e ∧ Hold s0 s' (HP.own 3 av sp.length (sp.flatMap eSp) :: l)) := by
  refine CallP_of (hX ▸ ir26_eq) (ho _ _ (by decide)) (Nat.le_of_ble_eq_true rfl) ?_
  refine W_seq (W_ops [0, 1, 2, 3, 4, 5] ?_)
  simp only [o26_0, WO_move, WO_nil, geT_put, frame_nil, frame_cons, evO_const, keep_nil, keep_cons, keepK_eq, Nat.reduceEqDiff, Nat.reduceAdd, ↓reduceIte, eq_self, Nat.zero_add]
  intro fr e0 e1 e2 e3 e4 e5
  refine SeqK_n ?_
  refine W_assoc ?_
  refine W_seq (W_ops [0, 1, 2, 3, 4, 5, 30] ?_)
  simp only [o26_1, WO_bin, WO_bu, WO_move, bin_gtr, WO_nil, PureK_some, geT_put, evO_tmp, evO_const, keep_nil, keep_cons, keepK_eq, List.map_cons, List.map_nil, Nat.reduceEqDiff, ↓reduceIte, eq_self, e0, e1, e2, e3, e4, e5, hT.len]
  clear e0 e1 e2 e3 e4 e5
  intro fr e0 e1 e2 e3 e4 e5 e30
  refine SeqK_n ?_
  refine W_seq (W_if e30 (fun h => ?_) (fun hlen => W_skip (SeqK_n ?_)))
  · refine W_seq (W_ops [12, 13] ?_)
    simp only [o26_2, WO_move, WO_nil, geT_put, evO_const, keep_nil, keep_cons, keepK_eq, Nat.reduceEqDiff, ↓reduceIte, eq_self]
    clear e0 e1 e2 e3 e4 e5 e30
    intro fr e12 e13
    refine SeqK_n ?_
    exact W_ret (SeqK_r (Ret2 e12 e13 ⟨_, [], 3, rfl, .long (.inl (by omega)), H.nil 3⟩))
  refine W_seq (W_ops [0, 1, 2, 3, 4, 5, 14] ?_)
  simp only [o26_3, WO_move, WO_nil, geT_put, evO_const, keep_nil, keep_cons, keepK_eq, Nat.reduceEqDiff, ↓reduceIte, eq_self, e0, e1, e2, e3, e4, e5]
  clear e0 e1 e2 e3 e4 e5 e30
  intro fr e0 e1 e2 e3 e4 e5 e14
  refine SeqK_n ?_
  refine W_assoc ?_
  refine W_seq (W_ops [0, 1, 2, 3, 4, 5, 14, 31, 32, 33] ?_)
  simp only [o26_4, WO_bu, WO_move, WO_nil, PureK_some, geT_put, evO_tmp, evO_const, keep_nil, keep_cons, keepK_eq, List.map_cons, List.map_nil, Nat.reduceEqDiff, ↓reduceIte, eq_self, e0, e1, e2, e3, e4, e5, e14, hT.len]
  clear e0 e1 e2 e3 e4 e5 e14
  intro fr e0 e1 e2 e3 e4 e5 e14 e31 e32 e33
  refine SeqK_n ?_
  refine W_seq (W_block (W_loop (fun m fr s1 => ∃ k, k + m = rows.length ∧ s = s1 ∧ (∀ i (hi : i < rows.length), i < k → rows[i].length ≤ 16384) ∧ tot (rows.take k) ≤ 262144 ∧ geT fr 0 = mv ∧ geT fr 1 = .int .i8 way ∧ geT fr 2 = .int .i64 g ∧ geT fr 3 = .int .i64 t ∧ geT fr 4 = .int .i64 nth ∧ geT fr 5 = .float .f64 times ∧
    geT fr 14 = .int .i64 (tot (rows.take k) : Nat) ∧ geT fr 31 = mv ∧ geT fr 32 = .int .i64 (rows.length : Nat) ∧ geT fr 33 = .int .i64 (k : Nat)) rows.length ⟨0, by omega, rfl, fun i hi h => by omega, by simp [tot], e0, e1, e2, e3, e4, e5, by rw [e14]; rfl, e31, e32, e33⟩ ?_))
  clear e0 e1 e2 e3 e4 e5 e14 e31 e32 e33 fr
  rintro m fr _ ⟨k, hk, rfl, hsm, htk, e0, e1, e2, e3, e4, e5, e14, e31, e32, e33⟩
  refine W_seq (W_ops [0, 1, 2, 3, 4, 5, 14, 31, 32, 33, 34] ?_)
  simp only [o26_6, WO_bin, bin_lss, WO_nil, PureK_some, geT_put, evO_tmp, keep_nil, keep_cons, keepK_eq, Nat.reduceEqDiff, ↓reduceIte, eq_self, e0, e1, e2, e3, e4, e5, e14, e31, e32, e33]
  clear e0 e1 e2 e3 e4 e5 e14 e31 e32 e33
  intro fr e0 e1 e2 e3 e4 e5 e14 e31 e32 e33 e34
  refine SeqK_n ?_
  refine W_while e34 (fun hlt => ?_) (fun hlt => ?_)
  · have hk1 : k < rows.length := by omega
    have hnk := hn rows[k] (List.getElem_mem hk1)
    obtain ⟨c, B0, A0, r0⟩ := hT.row hk1
    have hts := tot_succ hk1
    have hle := tot_le rows (k + 1)
    refine W_seq (W_block ?_)
    refine W_seq (W_ops [0, 1, 2, 3, 4, 5, 14, 16, 31, 32, 33] ?_)
    simp only [o26_7, WO_addrSl, WO_load, WO_move, WO_nil, PureK_some, geT_put, evO_tmp, keep_nil, keep_cons, keepK_eq, Nat.reduceEqDiff, ↓reduceIte, eq_self, e0, e1, e2, e3, e4, e5, e14, e31, e32, e33, B0, A0]
    clear e0 e1 e2 e3 e4 e5 e14 e31 e32 e33 e34
    intro fr e0 e1 e2 e3 e4 e5 e14 e16 e31 e32 e33
    refine SeqK_n ?_
    refine W_seq (W_ops [0, 1, 2, 3, 4, 5, 14, 16, 31, 32, 33] ?_)
    simp only [o26_8, WO_bin, WO_bu, WO_move, bin_add, WO_nil, PureK_some, geT_put, evO_tmp, keep_nil, keep_cons, keepK_eq, List.map_cons, List.map_nil, Nat.reduceEqDiff, ↓reduceIte, eq_self, e0, e1, e2, e3, e4, e5, e14, e16, e31, e32, e33, r0.len, wrap_i64 (n := ((tot (rows.take k) : Nat) : Int) + ((rows[k].length : Nat) : Int)) (by omega) (by omega)]
    clear e0 e1 e2 e3 e4 e5 e14 e16 e31 e32 e33
    intro fr e0 e1 e2 e3 e4 e5 e14 e16 e31 e32 e33
    refine SeqK_n ?_
    have ht1 : ((tot (rows.take k) : Nat) : Int) + ((rows[k].length : Nat) : Int) = ((tot (rows.take (k + 1)) : Nat) : Int) := by omega
    rw [ht1] at e14
    by_cases h1 : (16384 : Int) < ((rows[k].length : Nat) : Int)
    · refine W_seq (W_ops [0, 1, 2, 3, 4, 5, 14, 31, 32, 33, 47] ?_)
      simp only [o26_9, WO_bin, WO_bu, WO_move, WO_pick, pick_b, bin_gtr, WO_nil, PureK_some, WO_guard, want_v, wantB_f, geT_put, evO_tmp, evO_const, keep_nil, keep_cons, keepK_eq, List.map_cons, List.map_nil, Nat.reduceEqDiff, ↓reduceIte, Bool.not_true, eq_self, Bool.false_eq_true, e0, e1, e2, e3, e4, e5, e14, e16, e31, e32, e33, r0.len, decide_eq_true h1]
      clear e0 e1 e2 e3 e4 e5 e14 e16 e31 e32 e33
      intro fr e0 e1 e2 e3 e4 e5 e14 e31 e32 e33 e47
      refine SeqK_n ?_
      refine W_cond e47 (fun _ => ?_) (fun h => by cases h)
      refine W_seq (W_ops [12, 13] ?_)
      simp only [o26_10, WO_move, WO_nil, geT_put, evO_const, keep_nil, keep_cons, keepK_eq, Nat.reduceEqDiff, ↓reduceIte, eq_self]
      clear e0 e1 e2 e3 e4 e5 e14 e31 e32 e33 e47
      intro fr e12 e13
      refine SeqK_n ?_
      exact W_ret (BlkK_r (SeqK_r (LoopK_r (BlkK_r (SeqK_r (Ret2 e12 e13 ⟨_, [], 3, rfl, .long (.inr (.inl ⟨k, hk1, by omega⟩)), H.nil 3⟩))))))
    · by_cases h2 : (262144 : Int) < ((tot (rows.take (k + 1)) : Nat) : Int)
      · skip
        refine W_seq (W_ops [0, 1, 2, 3, 4, 5, 14, 31, 32, 33, 47] ?_)
        simp only [o26_9, WO_bin, WO_bu, WO_move, WO_pick, pick_b, bin_gtr, WO_nil, PureK_some, WO_guard, want_v, wantB_f, geT_put, evO_tmp, evO_const, keep_nil, keep_cons, keepK_eq, List.map_cons, List.map_nil, Nat.reduceEqDiff, ↓reduceIte, Bool.not_false, eq_self, Bool.false_eq_true, e0, e1, e2, e3, e4, e5, e14, e16, e31, e32, e33, r0.len, decide_eq_false h1, decide_eq_true h2]
        clear e0 e1 e2 e3 e4 e5 e14 e16 e31 e32 e33
        intro fr e0 e1 e2 e3 e4 e5 e14 e31 e32 e33 e47
        refine SeqK_n ?_
        refine W_cond e47 (fun _ => ?_) (fun h => by cases h)
        refine W_seq (W_ops [12, 13] ?_)
        simp only [o26_10, WO_move, WO_nil, geT_put, evO_const, keep_nil, keep_cons, keepK_eq, Nat.reduceEqDiff, ↓reduceIte, eq_self]
        clear e0 e1 e2 e3 e4 e5 e14 e31 e32 e33 e47
        intro fr e12 e13
        refine SeqK_n ?_
        exact W_ret (BlkK_r (SeqK_r (LoopK_r (BlkK_r (SeqK_r (Ret2 e12 e13 ⟨_, [], 3, rfl, .long (.inr (.inr (by omega))), H.nil 3⟩))))))
      · skip
        refine W_seq (W_ops [0, 1, 2, 3, 4, 5, 14, 31, 32, 33, 47] ?_)
        simp only [o26_9, WO_bin, WO_bu, WO_move, WO_pick, pick_b, bin_gtr, WO_nil, PureK_some, WO_guard, want_v, wantB_f, geT_put, evO_tmp, evO_const, keep_nil, keep_cons, keepK_eq, List.map_cons, List.map_nil, Nat.reduceEqDiff, ↓reduceIte, Bool.not_false, eq_self, Bool.false_eq_true, e0, e1, e2, e3, e4, e5, e14, e16, e31, e32, e33, r0.len, decide_eq_false h1, decide_eq_false h2]
        clear e0 e1 e2 e3 e4 e5 e14 e16 e31 e32 e33
        intro fr e0 e1 e2 e3 e4 e5 e14 e31 e32 e33 e47
        refine SeqK_n ?_
        refine W_cond e47 (fun h => by cases h) (fun _ => W_skip (BlkK_n (SeqK_n ?_)))
        refine W_ops [0, 1, 2, 3, 4, 5, 14, 31, 32, 33] ?_
        simp only [o26_11, WO_bin, WO_move, bin_add, WO_nil, PureK_some, geT_put, evO_tmp, evO_const, keep_nil, keep_cons, keepK_eq, Nat.reduceEqDiff, ↓reduceIte, eq_self, e0, e1, e2, e3, e4, e5, e14, e31, e32, e33, wrap_i64 (n := (k : Int) + 1) (by omega) (by omega)]
        clear e0 e1 e2 e3 e4 e5 e14 e31 e32 e33 e47
        intro fr e0 e1 e2 e3 e4 e5 e14 e31 e32 e33
        refine LoopK_n (m' := m - 1) (by omega) ⟨k + 1, by omega, rfl, fun i hi h => ?_, by omega, e0, e1, e2, e3, e4, e5, e14, e31, e32, by rw [e33]; rfl⟩
        by_cases hik : i = k
        · subst hik; omega
        · exact hsm i hi (by omega)
  · obtain rfl : k = rows.length := by omega
    rw [List.take_length] at htk
    have hsm' : ¬ (256 < rows.length ∨ bigM rows) := by
      rintro (h | ⟨i, hi, h⟩ | h)
      · omega
      · have := hsm i hi hi; omega
      · omega
    refine LoopK_x (BlkK_e (SeqK_n ?_))
    refine W_assoc ?_
    refine W_seq (W_ops [0, 1, 2, 3, 4, 5, 49, 50, 51] ?_)
    simp only [o26_12, WO_bu, WO_move, WO_nil, PureK_some, geT_put, evO_tmp, evO_const, keep_nil, keep_cons, keepK_eq, List.map_cons, List.map_nil, Nat.reduceEqDiff, ↓reduceIte, eq_self, e0, e1, e2, e3, e4, e5, hT.len]
    clear e0 e1 e2 e3 e4 e5 e14 e31 e32 e33 e34
    intro fr e0 e1 e2 e3 e4 e5 e49 e50 e51
    refine SeqK_n ?_
    refine W_seq (W_block (W_loop (fun m fr s1 => ∃ k, k + m = rows.length ∧ s = s1 ∧ (∀ i (hi : i < rows.length), i < k → rows[i].length = (rowAt rows 0).length) ∧ geT fr 0 = mv ∧ geT fr 1 = .int .i8 way ∧ geT fr 2 = .int .i64 g ∧ geT fr 3 = .int .i64 t ∧ geT fr 4 = .int .i64 nth ∧ geT fr 5 = .float .f64 times ∧
      geT fr 49 = mv ∧ geT fr 50 = .int .i64 (rows.length : Nat) ∧ geT fr 51 = .int .i64 (k : Nat)) rows.length ⟨0, by omega, rfl, fun i hi h => by omega, e0, e1, e2, e3, e4, e5, e49, e50, e51⟩ ?_))
    clear e0 e1 e2 e3 e4 e5 e49 e50 e51 fr hlt hk m
    rintro m fr _ ⟨k, hk, rfl, heq, e0, e1, e2, e3, e4, e5, e49, e50, e51⟩
    refine W_seq (W_ops [0, 1, 2, 3, 4, 5, 49, 50, 51, 52] ?_)
    simp only [o26_14, WO_bin, bin_lss, WO_nil, PureK_some, geT_put, evO_tmp, keep_nil, keep_cons, keepK_eq, Nat.reduceEqDiff, ↓reduceIte, eq_self, e0, e1, e2, e3, e4, e5, e49, e50, e51]
    clear e0 e1 e2 e3 e4 e5 e49 e50 e51
    intro fr e0 e1 e2 e3 e4 e5 e49 e50 e51 e52
    refine SeqK_n ?_
    refine W_while e52 (fun hlt => ?_) (fun hlt => ?_)
    · have hk1 : k < rows.length := by omega
      have h01 : 0 < rows.length := by omega
      have hnk := hn rows[k] (List.getElem_mem hk1)
      obtain ⟨c, B0, A0, r0⟩ := hT.row hk1
      obtain ⟨c0, B1, A1, r1⟩ := hT.row h01
      have hr0 : rows[0] = rowAt rows 0 := by unfold rowAt; rw [List.getElem?_eq_getElem h01]; rfl
      rw [hr0] at r1
      have B1' : addrSlV 1 mv (.int .i64 0) = some (elP mv 0) := B1
      refine W_seq (W_block ?_)
      refine W_seq (W_ops [0, 1, 2, 3, 4, 5, 18, 49, 50, 51] ?_)
      simp only [o26_15, WO_addrSl, WO_load, WO_move, WO_nil, PureK_some, geT_put, evO_tmp, keep_nil, keep_cons, keepK_eq, Nat.reduceEqDiff, ↓reduceIte, eq_self, e0, e1, e2, e3, e4, e5, e49, e50, e51, B0, A0]
      clear e0 e1 e2 e3 e4 e5 e49 e50 e51 e52
      intro fr e0 e1 e2 e3 e4 e5 e18 e49 e50 e51
      refine SeqK_n ?_
      refine W_seq (W_ops [0, 1, 2, 3, 4, 5, 49, 50, 51, 61] ?_)
      simp only [o26_16, WO_addrSl, WO_bin, WO_bu, WO_load, WO_move, bin_neq, WO_nil, PureK_some, geT_put, evO_tmp, evO_const, keep_nil, keep_cons, keepK_eq, List.map_cons, List.map_nil, Nat.reduceEqDiff, ↓reduceIte, eq_self, e0, e1, e2, e3, e4, e5, e18, e49, e50, e51, r0.len, B1', A1, r1.len]
      clear e0 e1 e2 e3 e4 e5 e18 e49 e50 e51
      intro fr e0 e1 e2 e3 e4 e5 e49 e50 e51 e61
      refine SeqK_n ?_
      refine W_ifn e61 (fun h => ?_) (fun h => W_skip (BlkK_n (SeqK_n ?_)))
      · refine W_seq (W_ops [12, 13] ?_)
        simp only [o26_17, WO_move, WO_nil, geT_put, evO_const, keep_nil, keep_cons, keepK_eq, Nat.reduceEqDiff, ↓reduceIte, eq_self]
        clear e0 e1 e2 e3 e4 e5 e49 e50 e51 e61
        intro fr e12 e13
        refine SeqK_n ?_
        exact W_ret (BlkK_r (SeqK_r (LoopK_r (BlkK_r (SeqK_r (Ret2 e12 e13 ⟨_, [], 5, rfl, .size hsm' ⟨k, hk1, by omega⟩, H.nil 3⟩))))))
      · skip
        refine W_ops [0, 1, 2, 3, 4, 5, 49, 50, 51] ?_
        simp only [o26_18, WO_bin, WO_move, bin_add, WO_nil, PureK_some, geT_put, evO_tmp, evO_const, keep_nil, keep_cons, keepK_eq, Nat.reduceEqDiff, ↓reduceIte, eq_self, e0, e1, e2, e3, e4, e5, e49, e50, e51, wrap_i64 (n := (k : Int) + 1) (by omega) (by omega)]
        clear e0 e1 e2 e3 e4 e5 e49 e50 e51 e61
        intro fr e0 e1 e2 e3 e4 e5 e49 e50 e51
        refine LoopK_n (m' := m - 1) (by omega) ⟨k + 1, by omega, rfl, fun i hi h => ?_, e0, e1, e2, e3, e4, e5, e49, e50, by rw [e51]; rfl⟩
        by_cases hik : i = k
        · subst hik; omega
        · exact heq i hi (by omega)
    · obtain rfl : k = rows.length := by omega
      have hun : ¬ unE rows := by
        rintro ⟨i, hi, h⟩
        exact h (heq i hi hi)
      refine LoopK_x (BlkK_e (SeqK_n ?_))
      refine W_assoc ?_
      refine W_seq (W_ops [0, 1, 2, 3, 4, 5, 20] ?_)
      simp only [o26_19, WO_call, WO_move, geT_put, evO_tmp, evO_const, List.map_cons, List.map_nil, Nat.reduceEqDiff, ↓reduceIte, eq_self, e1, e2, e3, e4, e5]
      refine CallK_of (run16 hX ho (L := []) (times := times) (Hold.refl s) .nil hwy) ?_
      rintro _ s2 ⟨fv, bs, e', rfl, hbs, G2⟩
      simp only [WO_extract, ext_20, ext_21, WO_move, WO_nil, PureK_some, geT_put, evO_tmp, keep_nil, keep_cons, keepK_eq, Nat.reduceEqDiff, ↓reduceIte, eq_self, e0, e1, e2, e3, e4, e5]
      clear e0 e1 e2 e3 e4 e5 e49 e50 e51 e52
      intro fr e0 e1 e2 e3 e4 e5 e20
      refine SeqK_n ?_
      have hE := hbs.isE
      subst hE
      have G3 := G2.tail.same
      have H2 := H.keep G3
      replace hT := hT.same G3
      clear hbs G2 bs fv H
      refine W_assoc ?_
      refine W_seq (W_ops [0, 1, 2, 3, 4, 5, 20, 73] ?_)
      simp only [o26_20, WO_bin, WO_move, bin_neq, WO_nil, PureK_some, geT_put, evO_tmp, evO_const, keep_nil, keep_cons, keepK_eq, Nat.reduceEqDiff, ↓reduceIte, eq_self, e0, e1, e2, e3, e4, e5, e20]
      clear e0 e1 e2 e3 e4 e5 e20
      intro fr e0 e1 e2 e3 e4 e5 e20 e73
      refine SeqK_n ?_
      by_cases h3 : lnE [] way g t nth times = 0
      · rw [decide_eq_true h3] at e73
        refine W_seq (W_cond e73 (fun h => by cases h) (fun _ => W_skip (SeqK_n ?_)))
        refine W_seq (W_ops [0, 1, 2, 3, 4, 5, 21] ?_)
        simp only [o26_22, WO_move, WO_nil, geT_put, evO_const, keep_nil, keep_cons, keepK_eq, Nat.reduceEqDiff, ↓reduceIte, eq_self, e0, e1, e2, e3, e4, e5]
        clear e0 e1 e2 e3 e4 e5 e20 e73
        intro fr e0 e1 e2 e3 e4 e5 e21
        refine SeqK_n ?_
        refine W_assoc ?_
        refine W_seq (W_ops [1, 2, 3, 4, 5, 21, 75, 76, 77] ?_)
        simp only [o26_23, WO_bu, WO_move, WO_nil, PureK_some, geT_put, evO_tmp, evO_const, keep_nil, keep_cons, keepK_eq, List.map_cons, List.map_nil, Nat.reduceEqDiff, ↓reduceIte, eq_self, e0, e1, e2, e3, e4, e5, e21, hT.len]
        clear e0 e1 e2 e3 e4 e5 e21
        intro fr e1 e2 e3 e4 e5 e21 e75 e76 e77
        refine SeqK_n ?_
        refine W_seq (W_block (W_loop (fun m fr s1 => ∃ i ov, i + m = rows.length ∧ (allSp rows way g t nth times i).length ≤ 4096 ∧ geT fr 1 = .int .i8 way ∧ geT fr 2 = .int .i64 g ∧ geT fr 3 = .int .i64 t ∧ geT fr 4 = .int .i64 nth ∧ geT fr 5 = .float .f64 times ∧
          geT fr 21 = ov ∧ geT fr 75 = mv ∧ geT fr 76 = .int .i64 (rows.length : Nat) ∧ geT fr 77 = .int .i64 (i : Nat) ∧ Hold s2 s1 [HP.own 3 ov (allSp rows way g t nth times i).length ((allSp rows way g t nth times i).flatMap eSp)]) rows.length
          ⟨0, _, by omega, by simp [allSp, mapSp], e1, e2, e3, e4, e5, e21, e75, e76, e77, by simpa [allSp, mapSp] using (Hold.refl s2).nil 3⟩ ?_))
        clear e1 e2 e3 e4 e5 e21 e75 e76 e77 fr hlt hk m
        rintro m fr s1 ⟨i, ov, hi, hl4, e1, e2, e3, e4, e5, e21, e75, e76, e77, H3⟩
        refine W_seq (W_ops [1, 2, 3, 4, 5, 21, 75, 76, 77, 78] ?_)
        simp only [o26_25, WO_bin, bin_lss, WO_nil, PureK_some, geT_put, evO_tmp, keep_nil, keep_cons, keepK_eq, Nat.reduceEqDiff, ↓reduceIte, eq_self, e1, e2, e3, e4, e5, e21, e75, e76, e77]
        clear e1 e2 e3 e4 e5 e21 e75 e76 e77
        intro fr e1 e2 e3 e4 e5 e21 e75 e76 e77 e78
        refine SeqK_n ?_
        refine W_while e78 (fun hlt => ?_) (fun hlt => ?_)
        · have hi1 : i < rows.length := by omega
          have hni := hn rows[i] (List.getElem_mem hi1)
          obtain ⟨c, B0, hc⟩ := hT.rowS hi1
          simp only [eU_map] at hc
          obtain ⟨A0, r0⟩ := hc _ H3.same
          refine W_seq (W_block ?_)
          refine W_seq (W_ops [1, 2, 3, 4, 5, 21, 22, 23, 75, 76, 77] ?_)
          simp only [o26_26, WO_addrSl, WO_load, WO_move, WO_nil, PureK_some, geT_put, evO_tmp, keep_nil, keep_cons, keepK_eq, Nat.reduceEqDiff, ↓reduceIte, eq_self, e1, e2, e3, e4, e5, e21, e75, e76, e77, B0, A0]
          clear e1 e2 e3 e4 e5 e21 e75 e76 e77 e78
          intro fr e1 e2 e3 e4 e5 e21 e22 e23 e75 e76 e77
          refine SeqK_n ?_
          refine W_seq (W_ops [1, 2, 3, 4, 5, 21, 22, 23, 24, 75, 76, 77] ?_)
          simp only [o26_27, WO_call, WO_move, geT_put, evO_tmp, List.map_cons, List.map_nil, Nat.reduceEqDiff, ↓reduceIte, eq_self, e1, e2, e3, e4, e5, e23]
          refine CallK_of (run16 hX ho (L := rows[i]) (times := times) H3 r0 hwy) ?_
          rintro _ s3 ⟨fv, bs, e', rfl, hbs, H4⟩
          simp only [WO_extract, ext_20, ext_21, WO_move, WO_nil, PureK_some, geT_put, evO_tmp, keep_nil, keep_cons, keepK_eq, Nat.reduceEqDiff, ↓reduceIte, eq_self, e1, e2, e3, e4, e5, e21, e22, e23, e75, e76, e77]
          clear e1 e2 e3 e4 e5 e21 e22 e23 e75 e76 e77
          intro fr e1 e2 e3 e4 e5 e21 e22 e23 e24 e75 e76 e77
          refine SeqK_n ?_
          have hbl := hbs.len
          have hB := hbs.isB
          clear hbs A0 r0 H3
          refine W_seq (W_ops [1, 2, 3, 4, 5, 21, 22, 23, 75, 76, 77, 92, 93, 94] ?_)
          simp only [o26_28, WO_bu, WO_move, WO_nil, PureK_some, geT_put, evO_tmp, evO_const, keep_nil, keep_cons, keepK_eq, List.map_cons, List.map_nil, Nat.reduceEqDiff, ↓reduceIte, eq_self, e1, e2, e3, e4, e5, e21, e22, e23, e24, e75, e76, e77, (H4.own (List.mem_cons_self ..)).slc.len]
          clear e1 e2 e3 e4 e5 e21 e22 e23 e24 e75 e76 e77
          intro fr e1 e2 e3 e4 e5 e21 e22 e23 e75 e76 e77 e92 e93 e94
          refine SeqK_n ?_
          refine W_block (W_loop (fun m2 fr s1 => ∃ k ov, k + m2 = bs.length ∧ (allSp rows way g t nth times i ++ rowSp i rows[i] bs k).length ≤ 4096 ∧ geT fr 1 = .int .i8 way ∧ geT fr 2 = .int .i64 g ∧ geT fr 3 = .int .i64 t ∧ geT fr 4 = .int .i64 nth ∧ geT fr 5 = .float .f64 times ∧
            geT fr 21 = ov ∧ geT fr 22 = .int .i64 (i : Nat) ∧ geT fr 23 = c ∧ geT fr 75 = mv ∧ geT fr 76 = .int .i64 (rows.length : Nat) ∧ geT fr 77 = .int .i64 (i : Nat) ∧ geT fr 92 = fv ∧ geT fr 93 = .int .i64 (bs.length : Nat) ∧ geT fr 94 = .int .i64 (k : Nat) ∧
            Hold s2 s1 [HP.own 3 ov (allSp rows way g t nth times i ++ rowSp i rows[i] bs k).length ((allSp rows way g t nth times i ++ rowSp i rows[i] bs k).flatMap eSp), HP.own 1 fv bs.length (blT bs)]) bs.length
            ⟨0, _, by omega, by simpa [rowSp] using hl4, e1, e2, e3, e4, e5, e21, e22, e23, e75, e76, e77, e92, e93, e94, by simpa [rowSp] using H4.up1⟩ ?_)
          clear e1 e2 e3 e4 e5 e21 e22 e23 e75 e76 e77 e92 e93 e94 fr H4 s1 s3 ov
          rintro m2 fr s1 ⟨k, ov, hk, hl5, e1, e2, e3, e4, e5, e21, e22, e23, e75, e76, e77, e92, e93, e94, H4⟩
          refine W_seq (W_ops [1, 2, 3, 4, 5, 21, 22, 23, 75, 76, 77, 92, 93, 94, 95] ?_)
          simp only [o26_30, WO_bin, bin_lss, WO_nil, PureK_some, geT_put, evO_tmp, keep_nil, keep_cons, keepK_eq, Nat.reduceEqDiff, ↓reduceIte, eq_self, e1, e2, e3, e4, e5, e21, e22, e23, e75, e76, e77, e92, e93, e94]
          clear e1 e2 e3 e4 e5 e21 e22 e23 e75 e76 e77 e92 e93 e94
          intro fr e1 e2 e3 e4 e5 e21 e22 e23 e75 e76 e77 e92 e93 e94 e95
          refine SeqK_n ?_
          refine W_while e95 (fun hlt2 => ?_) (fun hlt2 => ?_)
          · have hkb : k < bs.length := by omega
            have hkr : k < rows[i].length := by omega
            have sf := (H4.up1.own (List.mem_cons_self ..)).slc
            have so := (H4.own (List.mem_cons_self ..)).slc
            have F1 := sf.addr (kk := .i64) (i := (k : Int)) rfl hkb
            rw [Nat.mul_one] at F1
            have F2 : loadV s1 none (elP fv k) = some (.bool bs[k]) := sf.load (by rw [blT, List.getElem?_map, List.getElem?_eq_getElem hkb]; rfl)
            have hrs : rowSp i rows[i] bs (k + 1) = rowSp i rows[i] bs k ++ (if bs[k] = true then [(i, k, rows[i][k])] else []) := by
              rw [rowSp, List.getElem?_eq_getElem hkb, List.getElem?_eq_getElem hkr]; rfl
            refine W_seq (W_block ?_)
            refine W_seq (W_ops [1, 2, 3, 4, 5, 21, 22, 23, 26, 27, 75, 76, 77, 92, 93, 94] ?_)
            simp only [o26_31, WO_addrSl, WO_load, WO_move, WO_nil, PureK_some, geT_put, evO_tmp, keep_nil, keep_cons, keepK_eq, Nat.reduceEqDiff, ↓reduceIte, eq_self, e1, e2, e3, e4, e5, e21, e22, e23, e75, e76, e77, e92, e93, e94, F1, F2]
            clear e1 e2 e3 e4 e5 e21 e22 e23 e75 e76 e77 e92 e93 e94 e95
            intro fr e1 e2 e3 e4 e5 e21 e22 e23 e26 e27 e75 e76 e77 e92 e93 e94
            refine SeqK_n ?_
            refine W_assoc ?_
            refine W_seq (W_ops [1, 2, 3, 4, 5, 21, 22, 23, 26, 75, 76, 77, 92, 93, 94, 100] ?_)
            simp only [o26_32, WO_move, WO_un, un_not, WO_nil, PureK_some, geT_put, evO_tmp, keep_nil, keep_cons, keepK_eq, Nat.reduceEqDiff, ↓reduceIte, eq_self, e1, e2, e3, e4, e5, e21, e22, e23, e26, e27, e75, e76, e77, e92, e93, e94]
            clear e1 e2 e3 e4 e5 e21 e22 e23 e26 e27 e75 e76 e77 e92 e93 e94
            intro fr e1 e2 e3 e4 e5 e21 e22 e23 e26 e75 e76 e77 e92 e93 e94 e100
            refine SeqK_n ?_
            cases hbk : bs[k] with
            | false =>
              rw [hbk] at e100
              rw [hbk, if_neg (by simp), List.append_nil] at hrs
              refine W_seq (W_cond e100 (fun _ => ?_) (fun h => by cases h))
              refine W_exit (SeqK_x (BlkK_e (SeqK_n ?_)))
              refine W_ops [1, 2, 3, 4, 5, 21, 22, 23, 75, 76, 77, 92, 93, 94] ?_
              simp only [o26_36, WO_bin, WO_move, bin_add, WO_nil, PureK_some, geT_put, evO_tmp, evO_const, keep_nil, keep_cons, keepK_eq, Nat.reduceEqDiff, ↓reduceIte, eq_self, e1, e2, e3, e4, e5, e21, e22, e23, e75, e76, e77, e92, e93, e94, wrap_i64 (n := (k : Int) + 1) (by omega) (by omega)]
              clear e1 e2 e3 e4 e5 e21 e22 e23 e75 e76 e77 e92 e93 e94 e100
              intro fr e1 e2 e3 e4 e5 e21 e22 e23 e75 e76 e77 e92 e93 e94
              exact LoopK_n (m' := m2 - 1) (by omega) ⟨k + 1, ov, by omega, by rw [hrs]; exact hl5, e1, e2, e3, e4, e5, e21, e22, e23, e75, e76, e77, e92, e93, by rw [e94]; rfl, by rw [hrs]; exact H4⟩
            | true =>
              rw [hbk] at e100
              rw [hbk, if_pos rfl] at hrs
              refine W_seq (W_cond e100 (fun h => by cases h) (fun _ => W_skip (SeqK_n ?_)))
              refine W_assoc ?_
              refine W_seq (W_ops [1, 2, 3, 4, 5, 21, 22, 23, 26, 75, 76, 77, 92, 93, 94, 103] ?_)
              simp only [o26_33, WO_bin, WO_bu, WO_move, bin_eql, WO_nil, PureK_some, geT_put, evO_tmp, evO_const, keep_nil, keep_cons, keepK_eq, List.map_cons, List.map_nil, Nat.reduceEqDiff, ↓reduceIte, eq_self, e1, e2, e3, e4, e5, e21, e22, e23, e26, e75, e76, e77, e92, e93, e94, so.len]
              clear e1 e2 e3 e4 e5 e21 e22 e23 e26 e75 e76 e77 e92 e93 e94 e100
              intro fr e1 e2 e3 e4 e5 e21 e22 e23 e26 e75 e76 e77 e92 e93 e94 e103
              refine SeqK_n ?_
              refine W_seq (W_if e103 (fun h => ?_) (fun h => W_skip (SeqK_n ?_)))
              · refine W_seq (W_ops [12, 13] ?_)
                simp only [o26_34, WO_move, WO_nil, geT_put, evO_const, keep_nil, keep_cons, keepK_eq, Nat.reduceEqDiff, ↓reduceIte, eq_self]
                clear e1 e2 e3 e4 e5 e21 e22 e23 e26 e75 e76 e77 e92 e93 e94 e103
                intro fr e12 e13
                refine SeqK_n ?_
                exact W_ret (SeqK_r (BlkK_r (SeqK_r (LoopK_r (BlkK_r (BlkK_r (SeqK_r (LoopK_r (BlkK_r (SeqK_r (Ret2 e12 e13 ⟨_, [], 3, rfl, .many hsm' hun h3 (i := i) (k := k) hi1 (by rw [← hB]; exact hkb) (by simp only [← hB]; exact hbk) (by rw [← hB]; omega), (H2.keep H4.same).nil 3⟩)))))))))))
              · obtain ⟨A0, r0⟩ := hc _ H4.same
                have R1 := r0.addr (kk := .i64) (i := (k : Int)) rfl hkr
                rw [Nat.mul_one] at R1
                have R2 : loadV s1 none (elP c k) = some (.float .f64 (rows[i][k]).toNat) := r0.load (flT_get hkr)
                have hbu : buildV [.int .i64 0, .int .i64 0, .float .f64 0] [(0, 1, .int .i64 (i : Nat)), (1, 1, .int .i64 (k : Nat)), (2, 1, .float .f64 (rows[i][k]).toNat)] = some (.agg #[.int .i64 (i : Nat), .int .i64 (k : Nat), .float .f64 (rows[i][k]).toNat]) := rfl
                have hbs : buildSlV s1 3 [.int .i64 0, .int .i64 0, .float .f64 0] 1 [(0, 3, .agg #[.int .i64 (i : Nat), .int .i64 (k : Nat), .float .f64 (rows[i][k]).toNat])] = some (.slice (some ⟨s1.nxt, 0, none⟩) 1 1, .cells (eSp (i, k, rows[i][k])) false) := rfl
                obtain ⟨ov', s3, ap, H5⟩ := H4.push (bytes := 24) (new := eSp (i, k, rows[i][k])) rfl rfl (by omega) (by decide) (by omega) (by omega) (by omega)
                have hnew : (allSp rows way g t nth times i ++ rowSp i rows[i] bs k).flatMap eSp ++ eSp (i, k, rows[i][k]) = (allSp rows way g t nth times i ++ rowSp i rows[i] bs (k + 1)).flatMap eSp := by
                  rw [hrs, ← List.append_assoc, List.flatMap_append (xs := allSp rows way g t nth times i ++ rowSp i rows[i] bs k)]; simp
                have hnl : (allSp rows way g t nth times i ++ rowSp i rows[i] bs k).length + 1 = (allSp rows way g t nth times i ++ rowSp i rows[i] bs (k + 1)).length := by
                  rw [hrs]; simp; omega
                rw [hnew, hnl] at H5
                refine W_ops [1, 2, 3, 4, 5, 21, 22, 23, 75, 76, 77, 92, 93, 94] ?_
                simp only [o26_35, WO_addrSl, WO_append, WO_build, WO_buildSlice, WO_load, WO_move, WO_nil, PureK_some, MemK_some, NewK_some, geT_put, evO_tmp, keep_nil, keep_cons, keepK_eq, List.map_cons, List.map_nil, Nat.reduceEqDiff, ↓reduceIte, eq_self, Nat.zero_mul, e1, e2, e3, e4, e5, e21, e22, e23, e26, e75, e76, e77, e92, e93, e94, R1, R2, hbu, hbs, ap]
                clear e1 e2 e3 e4 e5 e21 e22 e23 e26 e75 e76 e77 e92 e93 e94 e103
                intro fr e1 e2 e3 e4 e5 e21 e22 e23 e75 e76 e77 e92 e93 e94
                refine BlkK_n (SeqK_n ?_)
                refine W_ops [1, 2, 3, 4, 5, 21, 22, 23, 75, 76, 77, 92, 93, 94] ?_
                simp only [o26_36, WO_bin, WO_move, bin_add, WO_nil, PureK_some, geT_put, evO_tmp, evO_const, keep_nil, keep_cons, keepK_eq, Nat.reduceEqDiff, ↓reduceIte, eq_self, e1, e2, e3, e4, e5, e21, e22, e23, e75, e76, e77, e92, e93, e94, wrap_i64 (n := (k : Int) + 1) (by omega) (by omega)]
                clear e1 e2 e3 e4 e5 e21 e22 e23 e75 e76 e77 e92 e93 e94
                intro fr e1 e2 e3 e4 e5 e21 e22 e23 e75 e76 e77 e92 e93 e94
                exact LoopK_n (m' := m2 - 1) (by omega) ⟨k + 1, ov', by omega, by omega, e1, e2, e3, e4, e5, e21, e22, e23, e75, e76, e77, e92, e93, by rw [e94]; rfl, H5⟩
          · obtain rfl : k = bs.length := by omega
            have hss := allSp_succ (way := way) (g := g) (t := t) (nth := nth) (times := times) hi1
            rw [← hB] at hss
            rw [← hss] at H4 hl5
            refine LoopK_x (BlkK_e (BlkK_n (SeqK_n ?_)))
            refine W_ops [1, 2, 3, 4, 5, 21, 75, 76, 77] ?_
            simp only [o26_37, WO_bin, WO_move, bin_add, WO_nil, PureK_some, geT_put, evO_tmp, evO_const, keep_nil, keep_cons, keepK_eq, Nat.reduceEqDiff, ↓reduceIte, eq_self, e1, e2, e3, e4, e5, e21, e75, e76, e77, wrap_i64 (n := (i : Int) + 1) (by omega) (by omega)]
            clear e1 e2 e3 e4 e5 e21 e22 e23 e75 e76 e77 e92 e93 e94 e95
            intro fr e1 e2 e3 e4 e5 e21 e75 e76 e77
            exact LoopK_n (m' := m - 1) (by omega) ⟨i + 1, ov, by omega, hl5, e1, e2, e3, e4, e5, e21, e75, e76, by rw [e77]; rfl, H4.up1.tail⟩
        · obtain rfl : i = rows.length := by omega
          refine LoopK_x (BlkK_e (SeqK_n ?_))
          refine W_seq (W_ops [12, 13] ?_)
          simp only [o26_38, WO_move, WO_nil, geT_put, evO_tmp, evO_const, keep_nil, keep_cons, keepK_eq, Nat.reduceEqDiff, ↓reduceIte, eq_self, e21]
          clear e1 e2 e3 e4 e5 e21 e75 e76 e77 e78
          intro fr e12 e13
          refine SeqK_n ?_
          have HF := H2.app H3
          simp only [List.cons_append, List.nil_append] at HF
          exact W_ret (Ret2 e12 e13 ⟨_, _, 0, rfl, .all hsm' hun h3 hl4, HF⟩)
      · rw [decide_eq_false h3] at e73
        refine W_seq (W_cond e73 (fun _ => ?_) (fun h => by cases h))
        refine W_seq (W_ops [12, 13] ?_)
        simp only [o26_21, WO_move, WO_nil, geT_put, evO_tmp, evO_const, keep_nil, keep_cons, keepK_eq, Nat.reduceEqDiff, ↓reduceIte, eq_self, e20]
        clear e0 e1 e2 e3 e4 e5 e20 e73
        intro fr e12 e13
        refine SeqK_n ?_
        exact W_ret (SeqK_r (Ret2 e12 e13 ⟨_, [], _, rfl, .args hsm' hun h3, H2.nil 3⟩))

end Go.Proofs.Ytfjdihfflghfpaa

/- Cfar: the document's Map, walked. -/
namespace Go.Proofs.Ytfjdihfflghfpaa
open Go Go.Vam Go.Sort


set_option maxHeartbeats 4000000 in
theorem run27 {X : Ctx} (hX : X.fns = fnsOf Try.prog) (ho : ∀ f args, f ≠ 10 ∧ f ≠ 24 → X.orc f args = none) {s0 s : Mm} {l : List HP} {mv : Value} {rows : List (List UInt64)} {way g t nth : Int} {times : Nat} (H : Hold s0 s l) (hT : TabE s 1 eU mv rows) (hl : rows.length ≤ 1048576) (hn : ∀ r ∈ rows, r.length ≤ 1048576) (hti : times < 18446744073709551616) :
    CallP X 27 [mv, .int .i8 way, .int .i64 g, .int .i64 t, .int .i64 nth, .float .f64 times] s (fun r s' => ∃ av sp e, r = .tuple #[av, .int .i64 e] ∧ MapR rows way g t nth times sp e ∧ Hold s0 s' (HP.own 3 av sp.length (sp.flatMap eSp) :: l)) := by
  refine CallP_of (hX ▸ ir27_eq) (ho _ _ (by decide)) (Nat.le_of_ble_eq_true rfl) ?_
  refine W_seq (W_ops [0, 1, 2, 3, 4, 5] ?_)
  simp only [o27_0, WO_move, WO_nil, geT_put, frame_nil, frame_cons, evO_const, keep_nil, keep_cons, keepK_eq, Nat.reduceEqDiff, Nat.reduceAdd, ↓reduceIte, eq_self, Nat.zero_add]
  intro fr e0 e1 e2 e3 e4 e5
  refine SeqK_n ?_
  refine W_assoc ?_
  refine W_seq (W_ops [0, 1, 2, 3, 4, 5, 26] ?_)
  simp only [o27_1, WO_bin, WO_bu, WO_move, bin_gtr, WO_nil, PureK_some, geT_put, evO_tmp, evO_const, keep_nil, keep_cons, keepK_eq, List.map_cons, List.map_nil, Nat.reduceEqDiff, ↓reduceIte, eq_self, e0, e1, e2, e3, e4, e5, hT.len]
  clear e0 e1 e2 e3 e4 e5
  intro fr e0 e1 e2 e3 e4 e5 e26
  refine SeqK_n ?_
  refine W_seq (W_if e26 (fun h => ?_) (fun hlen => W_skip (SeqK_n ?_)))
  · refine W_seq (W_ops [12, 13] ?_)
    simp only [o27_2, WO_move, WO_nil, geT_put, evO_const, keep_nil, keep_cons, keepK_eq, Nat.reduceEqDiff, ↓reduceIte, eq_self]
    clear e0 e1 e2 e3 e4 e5 e26
    intro fr e12 e13
    refine SeqK_n ?_
    exact W_ret (SeqK_r (Ret2 e12 e13 ⟨_, [], 3, rfl, .long (.inl (by omega)), H.nil 3⟩))
  refine W_seq (W_ops [0, 1, 2, 3, 4, 5, 14] ?_)
  simp only [o27_3, WO_move, WO_nil, geT_put, evO_const, keep_nil, keep_cons, keepK_eq, Nat.reduceEqDiff, ↓reduceIte, eq_self, e0, e1, e2, e3, e4, e5]
  clear e0 e1 e2 e3 e4 e5 e26
  intro fr e0 e1 e2 e3 e4 e5 e14
  refine SeqK_n ?_
  refine W_assoc ?_
  refine W_seq (W_ops [0, 1, 2, 3, 4, 5, 14, 15] ?_)
  simp only [o27_4, WO_move, WO_nil, geT_put, evO_const, keep_nil, keep_cons, keepK_eq, Nat.reduceEqDiff, ↓reduceIte, eq_self, e0, e1, e2, e3, e4, e5, e14]
  clear e0 e1 e2 e3 e4 e5 e14
  intro fr e0 e1 e2 e3 e4 e5 e14 e15
  refine SeqK_n ?_
  refine W_seq (W_block (W_loop (fun m fr s1 => ∃ k, k + m = rows.length ∧ s = s1 ∧ (∀ i (hi : i < rows.length), i < k → rows[i].length ≤ 16384) ∧ tot (rows.take k) ≤ 16384 * k ∧ geT fr 0 = mv ∧ geT fr 1 = .int .i8 way ∧ geT fr 2 = .int .i64 g ∧ geT fr 3 = .int .i64 t ∧ geT fr 4 = .int .i64 nth ∧ geT fr 5 = .float .f64 times ∧
    geT fr 14 = .int .i64 (tot (rows.take k) : Nat) ∧ geT fr 15 = .int .i64 (k : Nat)) rows.length ⟨0, by omega, rfl, fun i hi h => by omega, by simp [tot], e0, e1, e2, e3, e4, e5, by rw [e14]; rfl, e15⟩ ?_))
  clear e0 e1 e2 e3 e4 e5 e14 e15 fr
  rintro m fr _ ⟨k, hk, rfl, hsm, htk, e0, e1, e2, e3, e4, e5, e14, e15⟩
  refine W_assoc ?_
  refine W_seq (W_ops [0, 1, 2, 3, 4, 5, 14, 15, 30] ?_)
  simp only [o27_6, WO_bin, WO_bu, WO_move, bin_lss, WO_nil, PureK_some, geT_put, evO_tmp, keep_nil, keep_cons, keepK_eq, List.map_cons, List.map_nil, Nat.reduceEqDiff, ↓reduceIte, eq_self, e0, e1, e2, e3, e4, e5, e14, e15, hT.len]
  clear e0 e1 e2 e3 e4 e5 e14 e15
  intro fr e0 e1 e2 e3 e4 e5 e14 e15 e30
  refine SeqK_n ?_
  refine W_while e30 (fun hlt => ?_) (fun hlt => ?_)
  · have hk1 : k < rows.length := by omega
    have hnk := hn rows[k] (List.getElem_mem hk1)
    obtain ⟨c, B0, A0, r0⟩ := hT.row hk1
    have hts := tot_succ hk1
    refine W_seq (W_block ?_)
    refine W_assoc ?_
    refine W_seq (W_ops [0, 1, 2, 3, 4, 5, 14, 15, 38] ?_)
    simp only [o27_7, WO_addrSl, WO_bin, WO_bu, WO_load, WO_move, bin_gtr, WO_nil, PureK_some, geT_put, evO_tmp, evO_const, keep_nil, keep_cons, keepK_eq, List.map_cons, List.map_nil, Nat.reduceEqDiff, ↓reduceIte, eq_self, e0, e1, e2, e3, e4, e5, e14, e15, B0, A0, r0.len]
    clear e0 e1 e2 e3 e4 e5 e14 e15 e30
    intro fr e0 e1 e2 e3 e4 e5 e14 e15 e38
    refine SeqK_n ?_
    refine W_seq (W_if e38 (fun h => ?_) (fun h => W_skip (SeqK_n ?_)))
    · refine W_seq (W_ops [12, 13] ?_)
      simp only [o27_8, WO_move, WO_nil, geT_put, evO_const, keep_nil, keep_cons, keepK_eq, Nat.reduceEqDiff, ↓reduceIte, eq_self]
      clear e0 e1 e2 e3 e4 e5 e14 e15 e38
      intro fr e12 e13
      refine SeqK_n ?_
      exact W_ret (SeqK_r (BlkK_r (SeqK_r (LoopK_r (BlkK_r (SeqK_r (Ret2 e12 e13 ⟨_, [], 3, rfl, .long (.inr (.inl ⟨k, hk1, by omega⟩)), H.nil 3⟩)))))))
    · skip
      refine W_ops [0, 1, 2, 3, 4, 5, 14, 15] ?_
      simp only [o27_9, WO_addrSl, WO_bin, WO_bu, WO_load, WO_move, bin_add, WO_nil, PureK_some, geT_put, evO_tmp, keep_nil, keep_cons, keepK_eq, List.map_cons, List.map_nil, Nat.reduceEqDiff, ↓reduceIte, eq_self, e0, e1, e2, e3, e4, e5, e14, e15, B0, A0, r0.len, wrap_i64 (n := ((tot (rows.take k) : Nat) : Int) + ((rows[k].length : Nat) : Int)) (by omega) (by omega)]
      clear e0 e1 e2 e3 e4 e5 e14 e15 e38
      intro fr e0 e1 e2 e3 e4 e5 e14 e15
      have ht1 : ((tot (rows.take k) : Nat) : Int) + ((rows[k].length : Nat) : Int) = ((tot (rows.take (k + 1)) : Nat) : Int) := by omega
      rw [ht1] at e14
      refine BlkK_n (SeqK_n ?_)
      refine W_ops [0, 1, 2, 3, 4, 5, 14, 15] ?_
      simp only [o27_10, WO_bin, WO_move, bin_add, WO_nil, PureK_some, geT_put, evO_tmp, evO_const, keep_nil, keep_cons, keepK_eq, Nat.reduceEqDiff, ↓reduceIte, eq_self, e0, e1, e2, e3, e4, e5, e14, e15, wrap_i64 (n := (k : Int) + 1) (by omega) (by omega)]
      clear e0 e1 e2 e3 e4 e5 e14 e15
      intro fr e0 e1 e2 e3 e4 e5 e14 e15
      refine LoopK_n (m' := m - 1) (by omega) ⟨k + 1, by omega, rfl, fun i hi h => ?_, by omega, e0, e1, e2, e3, e4, e5, e14, by rw [e15]; rfl⟩
      by_cases hik : i = k
      · subst hik; omega
      · exact hsm i hi (by omega)
  · obtain rfl : k = rows.length := by omega
    rw [List.take_length] at htk e14
    refine LoopK_x (BlkK_e (SeqK_n ?_))
    refine W_assoc ?_
    refine W_seq (W_ops [0, 1, 2, 3, 4, 5, 47] ?_)
    simp only [o27_11, WO_bin, WO_move, bin_gtr, WO_nil, PureK_some, geT_put, evO_tmp, evO_const, keep_nil, keep_cons, keepK_eq, Nat.reduceEqDiff, ↓reduceIte, eq_self, e0, e1, e2, e3, e4, e5, e14]
    clear e0 e1 e2 e3 e4 e5 e14 e15 e30
    intro fr e0 e1 e2 e3 e4 e5 e47
    refine SeqK_n ?_
    refine W_seq (W_if e47 (fun h => ?_) (fun htot => W_skip (SeqK_n ?_)))
    · refine W_seq (W_ops [12, 13] ?_)
      simp only [o27_12, WO_move, WO_nil, geT_put, evO_const, keep_nil, keep_cons, keepK_eq, Nat.reduceEqDiff, ↓reduceIte, eq_self]
      clear e0 e1 e2 e3 e4 e5 e47
      intro fr e12 e13
      refine SeqK_n ?_
      exact W_ret (SeqK_r (Ret2 e12 e13 ⟨_, [], 3, rfl, .long (.inr (.inr (by omega))), H.nil 3⟩))
    have hsm' : ¬ (256 < rows.length ∨ bigM rows) := by
      rintro (h | ⟨i, hi, h⟩ | h)
      · omega
      · have := hsm i hi hi; omega
      · omega
    refine W_assoc ?_
    refine W_seq (W_ops [0, 1, 2, 3, 4, 5, 16] ?_)
    simp only [o27_13, WO_move, WO_nil, geT_put, evO_const, keep_nil, keep_cons, keepK_eq, Nat.reduceEqDiff, ↓reduceIte, eq_self, e0, e1, e2, e3, e4, e5]
    clear e0 e1 e2 e3 e4 e5 e47
    intro fr e0 e1 e2 e3 e4 e5 e16
    refine SeqK_n ?_
    refine W_seq (W_block (W_loop (fun m fr s1 => ∃ k, k + m = rows.length ∧ s = s1 ∧ (∀ i (hi : i < rows.length), i < k → rows[i].length = (rowAt rows 0).length) ∧ geT fr 0 = mv ∧ geT fr 1 = .int .i8 way ∧ geT fr 2 = .int .i64 g ∧ geT fr 3 = .int .i64 t ∧ geT fr 4 = .int .i64 nth ∧ geT fr 5 = .float .f64 times ∧
      geT fr 16 = .int .i64 (k : Nat)) rows.length ⟨0, by omega, rfl, fun i hi h => by omega, e0, e1, e2, e3, e4, e5, e16⟩ ?_))
    clear e0 e1 e2 e3 e4 e5 e16 fr hlt hk m
    rintro m fr _ ⟨k, hk, rfl, heq, e0, e1, e2, e3, e4, e5, e16⟩
    refine W_assoc ?_
    refine W_seq (W_ops [0, 1, 2, 3, 4, 5, 16, 51] ?_)
    simp only [o27_15, WO_bin, WO_bu, WO_move, bin_lss, WO_nil, PureK_some, geT_put, evO_tmp, keep_nil, keep_cons, keepK_eq, List.map_cons, List.map_nil, Nat.reduceEqDiff, ↓reduceIte, eq_self, e0, e1, e2, e3, e4, e5, e16, hT.len]
    clear e0 e1 e2 e3 e4 e5 e16
    intro fr e0 e1 e2 e3 e4 e5 e16 e51
    refine SeqK_n ?_
    refine W_while e51 (fun hlt => ?_) (fun hlt => ?_)
    · have hk1 : k < rows.length := by omega
      have h01 : 0 < rows.length := by omega
      have hnk := hn rows[k] (List.getElem_mem hk1)
      obtain ⟨c, B0, A0, r0⟩ := hT.row hk1
      obtain ⟨c0, B1, A1, r1⟩ := hT.row h01
      have hr0 : rows[0] = rowAt rows 0 := by unfold rowAt; rw [List.getElem?_eq_getElem h01]; rfl
      rw [hr0] at r1
      have B1' : addrSlV 1 mv (.int .i64 0) = some (elP mv 0) := B1
      refine W_seq (W_block ?_)
      refine W_seq (W_draw0 [0, 1, 2, 3, 4, 5, 16, 63] rfl ?_)
      simp only [d27_16, WD_addrSl, WD_bin, WD_bu, WD_load, WD_move, bin_neq, WD_nil, DPureK_some, DReadK_some, pastR_nil, joinAll_nil, setH_self, geT_put, evO_tmp, evO_const, keep_nil, keep_cons, keepK_eq, List.map_cons, List.map_nil, Nat.reduceEqDiff, Nat.reduceAdd, ↓reduceIte, eq_self, true_and, Nat.zero_add, e0, e1, e2, e3, e4, e5, e16, B0, A0, r0.len, B1', A1, r1.len]
      clear e0 e1 e2 e3 e4 e5 e16 e51
      intro fr e0 e1 e2 e3 e4 e5 e16 e63
      refine SeqK_n ?_
      refine W_ifn e63 (fun h => ?_) (fun h => W_skip (BlkK_n (SeqK_n ?_)))
      · refine W_seq (W_ops [12, 13] ?_)
        simp only [o27_17, WO_move, WO_nil, geT_put, evO_const, keep_nil, keep_cons, keepK_eq, Nat.reduceEqDiff, ↓reduceIte, eq_self]
        clear e0 e1 e2 e3 e4 e5 e16 e63
        intro fr e12 e13
        refine SeqK_n ?_
        exact W_ret (BlkK_r (SeqK_r (LoopK_r (BlkK_r (SeqK_r (Ret2 e12 e13 ⟨_, [], 5, rfl, .size hsm' ⟨k, hk1, by omega⟩, H.nil 3⟩))))))
      · skip
        refine W_ops [0, 1, 2, 3, 4, 5, 16] ?_
        simp only [o27_18, WO_bin, WO_move, bin_add, WO_nil, PureK_some, geT_put, evO_tmp, evO_const, keep_nil, keep_cons, keepK_eq, Nat.reduceEqDiff, ↓reduceIte, eq_self, e0, e1, e2, e3, e4, e5, e16, wrap_i64 (n := (k : Int) + 1) (by omega) (by omega)]
        clear e0 e1 e2 e3 e4 e5 e16 e63
        intro fr e0 e1 e2 e3 e4 e5 e16
        refine LoopK_n (m' := m - 1) (by omega) ⟨k + 1, by omega, rfl, fun i hi h => ?_, e0, e1, e2, e3, e4, e5, by rw [e16]; rfl⟩
        by_cases hik : i = k
        · subst hik; omega
        · exact heq i hi (by omega)
    · obtain rfl : k = rows.length := by omega
      have hun : ¬ unE rows := by
        rintro ⟨i, hi, h⟩
        exact h (heq i hi hi)
      refine LoopK_x (BlkK_e (SeqK_n ?_))
      refine W_seq (W_ops [0, 1, 2, 3, 4, 5, 18] ?_)
      simp only [o27_19, WO_call, WO_move, geT_put, evO_tmp, evO_const, List.map_cons, List.map_nil, Nat.reduceEqDiff, ↓reduceIte, eq_self, e1, e2, e3, e4, e5]
      refine CallK_of (run17 hX ho (L := []) (times := times) (Hold.refl s) .nil hti) ?_
      rintro _ s2 ⟨fv, bs, e', rfl, hbs, G2⟩
      simp only [WO_extract, ext_20, ext_21, WO_move, WO_nil, PureK_some, geT_put, evO_tmp, keep_nil, keep_cons, keepK_eq, Nat.reduceEqDiff, ↓reduceIte, eq_self, e0, e1, e2, e3, e4, e5]
      clear e0 e1 e2 e3 e4 e5 e16 e51
      intro fr e0 e1 e2 e3 e4 e5 e18
      refine SeqK_n ?_
      have hE := hbs.isE
      subst hE
      have G3 := G2.tail.same
      have H2 := H.keep G3
      replace hT := hT.same G3
      clear hbs G2 bs fv H
      refine W_assoc ?_
      refine W_seq (W_ops [0, 1, 2, 3, 4, 5, 18, 74] ?_)
      simp only [o27_20, WO_bin, WO_move, bin_neq, WO_nil, PureK_some, geT_put, evO_tmp, evO_const, keep_nil, keep_cons, keepK_eq, Nat.reduceEqDiff, ↓reduceIte, eq_self, e0, e1, e2, e3, e4, e5, e18]
      clear e0 e1 e2 e3 e4 e5 e18
      intro fr e0 e1 e2 e3 e4 e5 e18 e74
      refine SeqK_n ?_
      by_cases h3 : lnE [] way g t nth times = 0
      · rw [decide_eq_true h3] at e74
        refine W_seq (W_cond e74 (fun h => by cases h) (fun _ => W_skip (SeqK_n ?_)))
        refine W_seq (W_ops [0, 1, 2, 3, 4, 5, 19] ?_)
        simp only [o27_22, WO_move, WO_nil, geT_put, evO_const, keep_nil, keep_cons, keepK_eq, Nat.reduceEqDiff, ↓reduceIte, eq_self, e0, e1, e2, e3, e4, e5]
        clear e0 e1 e2 e3 e4 e5 e18 e74
        intro fr e0 e1 e2 e3 e4 e5 e19
        refine SeqK_n ?_
        refine W_assoc ?_
        refine W_seq (W_ops [0, 1, 2, 3, 4, 5, 19, 20] ?_)
        simp only [o27_23, WO_move, WO_nil, geT_put, evO_const, keep_nil, keep_cons, keepK_eq, Nat.reduceEqDiff, ↓reduceIte, eq_self, e0, e1, e2, e3, e4, e5, e19]
        clear e0 e1 e2 e3 e4 e5 e19
        intro fr e0 e1 e2 e3 e4 e5 e19 e20
        refine SeqK_n ?_
        refine W_seq (W_block (W_loop (fun m fr s1 => ∃ i ov, i + m = rows.length ∧ (allSp rows way g t nth times i).length ≤ 4096 ∧ geT fr 0 = mv ∧ geT fr 1 = .int .i8 way ∧ geT fr 2 = .int .i64 g ∧ geT fr 3 = .int .i64 t ∧ geT fr 4 = .int .i64 nth ∧ geT fr 5 = .float .f64 times ∧
          geT fr 19 = ov ∧ geT fr 20 = .int .i64 (i : Nat) ∧ Hold s2 s1 [HP.own 3 ov (allSp rows way g t nth times i).length ((allSp rows way g t nth times i).flatMap eSp)]) rows.length
          ⟨0, _, by omega, by simp [allSp, mapSp], e0, e1, e2, e3, e4, e5, e19, e20, by simpa [allSp, mapSp] using (Hold.refl s2).nil 3⟩ ?_))
        clear e0 e1 e2 e3 e4 e5 e19 e20 fr hlt hk m
        rintro m fr s1 ⟨i, ov, hi, hl4, e0, e1, e2, e3, e4, e5, e19, e20, H3⟩
        refine W_assoc ?_
        refine W_seq (W_ops [0, 1, 2, 3, 4, 5, 19, 20, 79] ?_)
        simp only [o27_25, WO_bin, WO_bu, WO_move, bin_lss, WO_nil, PureK_some, geT_put, evO_tmp, keep_nil, keep_cons, keepK_eq, List.map_cons, List.map_nil, Nat.reduceEqDiff, ↓reduceIte, eq_self, e0, e1, e2, e3, e4, e5, e19, e20, (hT.same H3.same).len]
        clear e0 e1 e2 e3 e4 e5 e19 e20
        intro fr e0 e1 e2 e3 e4 e5 e19 e20 e79
        refine SeqK_n ?_
        refine W_while e79 (fun hlt => ?_) (fun hlt => ?_)
        · have hi1 : i < rows.length := by omega
          have hni := hn rows[i] (List.getElem_mem hi1)
          obtain ⟨c, B0, hc⟩ := hT.rowS hi1
          simp only [eU_map] at hc
          obtain ⟨A0, r0⟩ := hc _ H3.same
          refine W_seq (W_block ?_)
          refine W_seq (W_ops [0, 1, 2, 3, 4, 5, 19, 20, 21] ?_)
          simp only [o27_26, WO_addrSl, WO_call, WO_load, WO_move, PureK_some, geT_put, evO_tmp, List.map_cons, List.map_nil, Nat.reduceEqDiff, ↓reduceIte, eq_self, e0, e1, e2, e3, e4, e5, e20, B0, A0]
          refine CallK_of (run17 hX ho (L := rows[i]) (times := times) H3 r0 hti) ?_
          rintro _ s3 ⟨fv, bs, e', rfl, hbs, H4⟩
          simp only [WO_extract, ext_20, ext_21, WO_move, WO_nil, PureK_some, geT_put, evO_tmp, keep_nil, keep_cons, keepK_eq, Nat.reduceEqDiff, ↓reduceIte, eq_self, e0, e1, e2, e3, e4, e5, e19, e20]
          clear e0 e1 e2 e3 e4 e5 e19 e20 e79
          intro fr e0 e1 e2 e3 e4 e5 e19 e20 e21
          refine SeqK_n ?_
          have hbl := hbs.len
          have hB := hbs.isB
          clear hbs A0 r0 H3
          refine W_seq (W_ops [0, 1, 2, 3, 4, 5, 19, 20, 21, 23] ?_)
          simp only [o27_27, WO_move, WO_nil, geT_put, evO_const, keep_nil, keep_cons, keepK_eq, Nat.reduceEqDiff, ↓reduceIte, eq_self, e0, e1, e2, e3, e4, e5, e19, e20, e21]
          clear e0 e1 e2 e3 e4 e5 e19 e20 e21
          intro fr e0 e1 e2 e3 e4 e5 e19 e20 e21 e23
          refine SeqK_n ?_
          refine W_block (W_loop (fun m2 fr s1 => ∃ k ov, k + m2 = bs.length ∧ (allSp rows way g t nth times i ++ rowSp i rows[i] bs k).length ≤ 4096 ∧ geT fr 0 = mv ∧ geT fr 1 = .int .i8 way ∧ geT fr 2 = .int .i64 g ∧ geT fr 3 = .int .i64 t ∧ geT fr 4 = .int .i64 nth ∧ geT fr 5 = .float .f64 times ∧
            geT fr 19 = ov ∧ geT fr 20 = .int .i64 (i : Nat) ∧ geT fr 21 = fv ∧ geT fr 23 = .int .i64 (k : Nat) ∧
            Hold s2 s1 [HP.own 3 ov (allSp rows way g t nth times i ++ rowSp i rows[i] bs k).length ((allSp rows way g t nth times i ++ rowSp i rows[i] bs k).flatMap eSp), HP.own 1 fv bs.length (blT bs)]) bs.length
            ⟨0, _, by omega, by simpa [rowSp] using hl4, e0, e1, e2, e3, e4, e5, e19, e20, e21, e23, by simpa [rowSp] using H4.up1⟩ ?_)
          clear e0 e1 e2 e3 e4 e5 e19 e20 e21 e23 fr H4 s1 s3 ov
          rintro m2 fr s1 ⟨k, ov, hk, hl5, e0, e1, e2, e3, e4, e5, e19, e20, e21, e23, H4⟩
          have sf := (H4.up1.own (List.mem_cons_self ..)).slc
          refine W_assoc ?_
          refine W_seq (W_ops [0, 1, 2, 3, 4, 5, 19, 20, 21, 23, 98] ?_)
          simp only [o27_29, WO_bin, WO_bu, WO_move, bin_lss, WO_nil, PureK_some, geT_put, evO_tmp, keep_nil, keep_cons, keepK_eq, List.map_cons, List.map_nil, Nat.reduceEqDiff, ↓reduceIte, eq_self, e0, e1, e2, e3, e4, e5, e19, e20, e21, e23, sf.len]
          clear e0 e1 e2 e3 e4 e5 e19 e20 e21 e23
          intro fr e0 e1 e2 e3 e4 e5 e19 e20 e21 e23 e98
          refine SeqK_n ?_
          refine W_while e98 (fun hlt2 => ?_) (fun hlt2 => ?_)
          · have hkb : k < bs.length := by omega
            have hkr : k < rows[i].length := by omega
            have so := (H4.own (List.mem_cons_self ..)).slc
            have F1 := sf.addr (kk := .i64) (i := (k : Int)) rfl hkb
            rw [Nat.mul_one] at F1
            have F2 : loadV s1 none (elP fv k) = some (.bool bs[k]) := sf.load (by rw [blT, List.getElem?_map, List.getElem?_eq_getElem hkb]; rfl)
            have hrs : rowSp i rows[i] bs (k + 1) = rowSp i rows[i] bs k ++ (if bs[k] = true then [(i, k, rows[i][k])] else []) := by
              rw [rowSp, List.getElem?_eq_getElem hkb, List.getElem?_eq_getElem hkr]; rfl
            refine W_seq (W_block ?_)
            refine W_assoc ?_
            refine W_seq (W_ops [0, 1, 2, 3, 4, 5, 19, 20, 21, 23, 105] ?_)
            simp only [o27_30, WO_addrSl, WO_load, WO_move, WO_un, un_not, WO_nil, PureK_some, geT_put, evO_tmp, keep_nil, keep_cons, keepK_eq, Nat.reduceEqDiff, ↓reduceIte, eq_self, e0, e1, e2, e3, e4, e5, e19, e20, e21, e23, F1, F2]
            clear e0 e1 e2 e3 e4 e5 e19 e20 e21 e23 e98
            intro fr e0 e1 e2 e3 e4 e5 e19 e20 e21 e23 e105
            refine SeqK_n ?_
            cases hbk : bs[k] with
            | false =>
              rw [hbk] at e105
              rw [hbk, if_neg (by simp), List.append_nil] at hrs
              refine W_seq (W_cond e105 (fun _ => ?_) (fun h => by cases h))
              refine W_exit (SeqK_x (BlkK_e (SeqK_n ?_)))
              refine W_ops [0, 1, 2, 3, 4, 5, 19, 20, 21, 23] ?_
              simp only [o27_34, WO_bin, WO_move, bin_add, WO_nil, PureK_some, geT_put, evO_tmp, evO_const, keep_nil, keep_cons, keepK_eq, Nat.reduceEqDiff, ↓reduceIte, eq_self, e0, e1, e2, e3, e4, e5, e19, e20, e21, e23, wrap_i64 (n := (k : Int) + 1) (by omega) (by omega)]
              clear e0 e1 e2 e3 e4 e5 e19 e20 e21 e23 e105
              intro fr e0 e1 e2 e3 e4 e5 e19 e20 e21 e23
              exact LoopK_n (m' := m2 - 1) (by omega) ⟨k + 1, ov, by omega, by rw [hrs]; exact hl5, e0, e1, e2, e3, e4, e5, e19, e20, e21, by rw [e23]; rfl, by rw [hrs]; exact H4⟩
            | true =>
              rw [hbk] at e105
              rw [hbk, if_pos rfl] at hrs
              refine W_seq (W_cond e105 (fun h => by cases h) (fun _ => W_skip (SeqK_n ?_)))
              refine W_assoc ?_
              refine W_seq (W_ops [0, 1, 2, 3, 4, 5, 19, 20, 21, 23, 108] ?_)
              simp only [o27_31, WO_bin, WO_bu, WO_move, bin_geq, WO_nil, PureK_some, geT_put, evO_tmp, evO_const, keep_nil, keep_cons, keepK_eq, List.map_cons, List.map_nil, Nat.reduceEqDiff, ↓reduceIte, eq_self, e0, e1, e2, e3, e4, e5, e19, e20, e21, e23, so.len]
              clear e0 e1 e2 e3 e4 e5 e19 e20 e21 e23 e105
              intro fr e0 e1 e2 e3 e4 e5 e19 e20 e21 e23 e108
              refine SeqK_n ?_
              refine W_seq (W_if e108 (fun h => ?_) (fun h => W_skip (SeqK_n ?_)))
              · refine W_seq (W_ops [12, 13] ?_)
                simp only [o27_32, WO_move, WO_nil, geT_put, evO_const, keep_nil, keep_cons, keepK_eq, Nat.reduceEqDiff, ↓reduceIte, eq_self]
                clear e0 e1 e2 e3 e4 e5 e19 e20 e21 e23 e108
                intro fr e12 e13
                refine SeqK_n ?_
                exact W_ret (SeqK_r (BlkK_r (SeqK_r (LoopK_r (BlkK_r (BlkK_r (SeqK_r (LoopK_r (BlkK_r (SeqK_r (Ret2 e12 e13 ⟨_, [], 3, rfl, .many hsm' hun h3 (i := i) (k := k) hi1 (by rw [← hB]; exact hkb) (by simp only [← hB]; exact hbk) (by rw [← hB]; omega), (H2.keep H4.same).nil 3⟩)))))))))))
              · obtain ⟨A0, r0⟩ := hc _ H4.same
                have R1 := r0.addr (kk := .i64) (i := (k : Int)) rfl hkr
                rw [Nat.mul_one] at R1
                have R2 : loadV s1 none (elP c k) = some (.float .f64 (rows[i][k]).toNat) := r0.load (flT_get hkr)
                have hbu : buildV [.int .i64 0, .int .i64 0, .float .f64 0] [(0, 1, .int .i64 (i : Nat)), (1, 1, .int .i64 (k : Nat)), (2, 1, .float .f64 (rows[i][k]).toNat)] = some (.agg #[.int .i64 (i : Nat), .int .i64 (k : Nat), .float .f64 (rows[i][k]).toNat]) := rfl
                have hbs : buildSlV s1 3 [.int .i64 0, .int .i64 0, .float .f64 0] 1 [(0, 3, .agg #[.int .i64 (i : Nat), .int .i64 (k : Nat), .float .f64 (rows[i][k]).toNat])] = some (.slice (some ⟨s1.nxt, 0, none⟩) 1 1, .cells (eSp (i, k, rows[i][k])) false) := rfl
                obtain ⟨ov', s3, ap, H5⟩ := H4.push (bytes := 24) (new := eSp (i, k, rows[i][k])) rfl rfl (by omega) (by decide) (by omega) (by omega) (by omega)
                have hnew : (allSp rows way g t nth times i ++ rowSp i rows[i] bs k).flatMap eSp ++ eSp (i, k, rows[i][k]) = (allSp rows way g t nth times i ++ rowSp i rows[i] bs (k + 1)).flatMap eSp := by
                  rw [hrs, ← List.append_assoc, List.flatMap_append (xs := allSp rows way g t nth times i ++ rowSp i rows[i] bs k)]; simp
                have hnl : (allSp rows way g t nth times i ++ rowSp i rows[i] bs k).length + 1 = (allSp rows way g t nth times i ++ rowSp i rows[i] bs (k + 1)).length := by
                  rw [hrs]; simp; omega
                rw [hnew, hnl] at H5
                refine W_ops [0, 1, 2, 3, 4, 5, 19, 20, 21, 23] ?_
                simp only [o27_33, WO_addrSl, WO_append, WO_build, WO_buildSlice, WO_load, WO_move, WO_nil, PureK_some, MemK_some, NewK_some, geT_put, evO_tmp, keep_nil, keep_cons, keepK_eq, List.map_cons, List.map_nil, Nat.reduceEqDiff, ↓reduceIte, eq_self, Nat.zero_mul, e0, e1, e2, e3, e4, e5, e19, e20, e21, e23, B0, A0, R1, R2, hbu, hbs, ap]
                clear e0 e1 e2 e3 e4 e5 e19 e20 e21 e23 e108
                intro fr e0 e1 e2 e3 e4 e5 e19 e20 e21 e23
                refine BlkK_n (SeqK_n ?_)
                refine W_ops [0, 1, 2, 3, 4, 5, 19, 20, 21, 23] ?_
                simp only [o27_34, WO_bin, WO_move, bin_add, WO_nil, PureK_some, geT_put, evO_tmp, evO_const, keep_nil, keep_cons, keepK_eq, Nat.reduceEqDiff, ↓reduceIte, eq_self, e0, e1, e2, e3, e4, e5, e19, e20, e21, e23, wrap_i64 (n := (k : Int) + 1) (by omega) (by omega)]
                clear e0 e1 e2 e3 e4 e5 e19 e20 e21 e23
                intro fr e0 e1 e2 e3 e4 e5 e19 e20 e21 e23
                exact LoopK_n (m' := m2 - 1) (by omega) ⟨k + 1, ov', by omega, by omega, e0, e1, e2, e3, e4, e5, e19, e20, e21, by rw [e23]; rfl, H5⟩
          · obtain rfl : k = bs.length := by omega
            have hss := allSp_succ (way := way) (g := g) (t := t) (nth := nth) (times := times) hi1
            rw [← hB] at hss
            rw [← hss] at H4 hl5
            refine LoopK_x (BlkK_e (BlkK_n (SeqK_n ?_)))
            refine W_ops [0, 1, 2, 3, 4, 5, 19, 20] ?_
            simp only [o27_35, WO_bin, WO_move, bin_add, WO_nil, PureK_some, geT_put, evO_tmp, evO_const, keep_nil, keep_cons, keepK_eq, Nat.reduceEqDiff, ↓reduceIte, eq_self, e0, e1, e2, e3, e4, e5, e19, e20, wrap_i64 (n := (i : Int) + 1) (by omega) (by omega)]
            clear e0 e1 e2 e3 e4 e5 e19 e20 e21 e23 e98
            intro fr e0 e1 e2 e3 e4 e5 e19 e20
            exact LoopK_n (m' := m - 1) (by omega) ⟨i + 1, ov, by omega, hl5, e0, e1, e2, e3, e4, e5, e19, by rw [e20]; rfl, H4.up1.tail⟩
        · obtain rfl : i = rows.length := by omega
          refine LoopK_x (BlkK_e (SeqK_n ?_))
          refine W_seq (W_ops [12, 13] ?_)
          simp only [o27_36, WO_move, WO_nil, geT_put, evO_tmp, evO_const, keep_nil, keep_cons, keepK_eq, Nat.reduceEqDiff, ↓reduceIte, eq_self, e19]
          clear e0 e1 e2 e3 e4 e5 e19 e20 e79
          intro fr e12 e13
          refine SeqK_n ?_
          have HF := H2.app H3
          simp only [List.cons_append, List.nil_append] at HF
          exact W_ret (Ret2 e12 e13 ⟨_, _, 0, rfl, .all hsm' hun h3 hl4, HF⟩)
      · rw [decide_eq_false h3] at e74
        refine W_seq (W_cond e74 (fun _ => ?_) (fun h => by cases h))
        refine W_seq (W_ops [12, 13] ?_)
        simp only [o27_21, WO_move, WO_nil, geT_put, evO_tmp, evO_const, keep_nil, keep_cons, keepK_eq, Nat.reduceEqDiff, ↓reduceIte, eq_self, e18]
        clear e0 e1 e2 e3 e4 e5 e18 e74
        intro fr e12 e13
        refine SeqK_n ?_
        exact W_ret (SeqK_r (Ret2 e12 e13 ⟨_, [], _, rfl, .args hsm' hun h3, H2.nil 3⟩))

end Go.Proofs.Ytfjdihfflghfpaa

/- CfarMaps, walked. -/
namespace Go.Proofs.Ytfjdihfflghfpaa
open Go Go.Vam Go.Sort

theorem tdiv_wrap {a : Int} {n : Nat} (h : 0 < n) (ha : 0 ≤ a ∧ a ≤ 1073741824) : wrapK .i64 (a.tdiv ((n : Nat) : Int)) = a.tdiv ((n : Nat) : Int) := by
  have h5 : a.tdiv ((n : Nat) : Int) = a / ((n : Nat) : Int) := Int.tdiv_eq_ediv_of_nonneg ha.1
  have h6 : 0 ≤ a / ((n : Nat) : Int) := Int.ediv_nonneg ha.1 (by omega)
  have h7 : a / ((n : Nat) : Int) ≤ a := Int.ediv_le_self _ ha.1
  rw [h5]; exact wrap_i64 (by omega) (by omega)

theorem buildSl_sl {s : Mm} {c : Value} (h : oneCell c = true) : buildSlV s 1 [.slice none 0 0] 1 [(0, 1, c)] = some (.slice (some ⟨s.nxt, 0, none⟩) 1 1, .cells [c] false) := by
  cases c <;> first | rfl | cases h

theorem eSp_at {sp : List Sp} {i j : Nat} (hi : i < sp.length) (hj : j < 3) : (sp.flatMap eSp)[i * 3 + j]? = (eSp sp[i])[j]? := by
  induction sp generalizing i with
  | nil => simp at hi
  | cons x sp ih =>
    rw [List.flatMap_cons]
    have h3 : (eSp x).length = 3 := rfl
    cases i with
    | zero =>
      rw [Nat.zero_mul, Nat.zero_add, List.getElem?_append_left (by omega)]; rfl
    | succ i =>
      rw [List.getElem?_append_right (by omega), h3, show (i + 1) * 3 + j - 3 = i * 3 + j by omega, ih (by simpa using hi)]
      rfl
theorem eSp_len (sp : List Sp) : (sp.flatMap eSp).length = sp.length * 3 := by
  induction sp with
  | nil => rfl
  | cons x sp ih => rw [List.flatMap_cons, List.length_append, ih, List.length_cons]; show 3 + _ = _; omega

def z3 : List Value := [.int .i64 (-1), .int .i64 0, .float .f64 0]


set_option maxHeartbeats 4000000 in
theorem run6 {X : Ctx} (hX : X.fns = fnsOf Try.prog) (ho : ∀ f args, f ≠ 10 ∧ f ≠ 24 → X.orc f args = none) (hw : X.orc 10 [] = some (.bool true)) {s : Mm} {mv : Value} {rows : List (List UInt64)} {way g t nth : Int} {times : Nat} (hT : TabE s 1 eU mv rows) (hwy : -128 ≤ way ∧ way ≤ 127) (ht : times < 18446744073709551616) :
    CallP X 6 [mv, kV way g t nth times] s (fun r _ => r = .bool true) := by
  have hbx := kC_is way g t nth times
  have H1 := (Hold.refl s).new (kC way g t nth times)
  refine CallP_of (hX ▸ ir6_eq) (ho _ _ (by decide)) (Nat.le_of_ble_eq_true rfl) ?_
  refine W_seq (W_ops [0, 3] ?_)
  simp only [o6_0, WO_box, WO_move, WO_nil, geT_put, frame_nil, frame_cons, evO_tmp, evO_const, keep_nil, keep_cons, keepK_eq, Nat.reduceEqDiff, Nat.reduceAdd, ↓reduceIte, eq_self, Nat.zero_add, hbx]
  intro fr e0 e3
  refine SeqK_n ?_
  generalize newAt s (.cells (kC way g t nth times) false) = s1 at H1 ⊢
  generalize s.nxt = Bk at H1 e3
  have lk : ∀ {s'} {l : List HP}, Hold s s' l → HP.cell Bk (kC way g t nth times) ∈ l → loadV s' none (.pointer (some ⟨Bk, 0, none⟩)) = some (.int .i8 way) ∧ loadV s' none (.pointer (some ⟨Bk, 1, none⟩)) = some (.int .i64 g) ∧ loadV s' none (.pointer (some ⟨Bk, 2, none⟩)) = some (.int .i64 t) ∧ loadV s' none (.pointer (some ⟨Bk, 3, none⟩)) = some (.int .i64 nth) ∧ loadV s' none (.pointer (some ⟨Bk, 4, none⟩)) = some (.float .f64 times) := fun h hm =>
    ⟨load_g (o := 0) (h.cell hm), load_g (o := 1) (h.cell hm), load_g (o := 2) (h.cell hm), load_g (o := 3) (h.cell hm), load_g (o := 4) (h.cell hm)⟩
  have works : ∀ {s1 : Mm}, CallP X 10 [] s1 (fun r s' => r = .bool true ∧ s1 = s') := fun {s1} => ⟨_, _, Call_orc hw, rfl, rfl⟩
  refine W_seq (W_ops [0, 3, 5] ?_)
  simp only [o6_1, WO_move, WO_nil, geT_put, evO_const, keep_nil, keep_cons, keepK_eq, Nat.reduceEqDiff, ↓reduceIte, eq_self, e0, e3]
  clear e0 e3
  intro fr e0 e3 e5
  refine SeqK_n ?_
  refine W_assoc ?_
  refine W_seq (W_ops [0, 3, 5, 16, 17] ?_)
  simp only [o6_2, WO_bu, WO_move, WO_nil, PureK_some, geT_put, evO_tmp, evO_const, keep_nil, keep_cons, keepK_eq, List.map_cons, List.map_nil, Nat.reduceEqDiff, ↓reduceIte, eq_self, e0, e3, e5, (hT.same H1.same).len]
  clear e0 e3 e5
  intro fr e0 e3 e5 e16 e17
  refine SeqK_n ?_
  refine W_seq (W_block (W_loop (fun m fr s1 => ∃ k, k + m = rows.length ∧ tot (rows.take k) + k ≤ 589825 ∧ (∀ i (hi : i < rows.length), i < k → rows[i].length ≤ 65536) ∧ geT fr 0 = mv ∧ geT fr 3 = .pointer (some ⟨Bk, 0, none⟩) ∧ geT fr 5 = .int .i64 (tot (rows.take k) + k : Nat) ∧
    geT fr 16 = .int .i64 (rows.length : Nat) ∧ geT fr 17 = .int .i64 (k : Nat) ∧ Hold s s1 [HP.cell Bk (kC way g t nth times)]) rows.length ⟨0, by omega, by simp [tot], fun i hi h => by omega, e0, e3, by rw [e5]; rfl, e16, e17, H1⟩ ?_))
  clear e0 e3 e5 e16 e17 fr H1 s1
  rintro m fr s1 ⟨k, hk, hn, hsm, e0, e3, e5, e16, e17, H1⟩
  refine W_seq (W_ops [0, 3, 5, 16, 17, 18] ?_)
  simp only [o6_4, WO_bin, bin_lss, WO_nil, PureK_some, geT_put, evO_tmp, keep_nil, keep_cons, keepK_eq, Nat.reduceEqDiff, ↓reduceIte, eq_self, e0, e3, e5, e16, e17]
  clear e0 e3 e5 e16 e17
  intro fr e0 e3 e5 e16 e17 e18
  refine SeqK_n ?_
  refine W_while e18 (fun hlt => ?_) (fun hlt => ?_)
  · have hk1 : k < rows.length := by omega
    obtain ⟨c, B0, hc⟩ := hT.rowS hk1
    simp only [eU_map] at hc
    obtain ⟨A0, r0⟩ := hc _ H1.same
    have lw : loadV s1 (some 5) (.pointer (some ⟨Bk, 0, none⟩)) = some (kV way g t nth times) := loadn_all (H1.cell (List.mem_cons_self ..)) rfl
    have hts := tot_succ hk1
    refine W_seq (W_block ?_)
    refine W_seq (W_ops [0, 3, 5, 6, 16, 17] ?_)
    simp only [o6_5, WO_move, WO_nil, geT_put, evO_tmp, keep_nil, keep_cons, keepK_eq, Nat.reduceEqDiff, ↓reduceIte, eq_self, e0, e3, e5, e16, e17]
    clear e0 e3 e5 e16 e17 e18
    intro fr e0 e3 e5 e6 e16 e17
    refine SeqK_n ?_
    refine W_assoc ?_
    refine W_seq (W_cutN (fun fr' s' => ∃ b, geT fr' 0 = mv ∧ geT fr' 3 = .pointer (some ⟨Bk, 0, none⟩) ∧ geT fr' 5 = .int .i64 (tot (rows.take k) + k : Nat) ∧ geT fr' 6 = .int .i64 (k : Nat) ∧ geT fr' 16 = .int .i64 (rows.length : Nat) ∧ geT fr' 17 = .int .i64 (k : Nat) ∧
      geT fr' 30 = .bool b ∧ (b = false → rows[k].length ≤ 65536 ∧ tot (rows.take k) + k ≤ 524288) ∧ Hold s s' [HP.cell Bk (kC way g t nth times)]) ?_ ?_)
    · intro R' hR'
      refine W_draw0 [0, 3, 5, 6, 16, 17, 30] rfl ?_
      simp only [d6_6, WD_addrSl, WD_bu, WD_call, WD_load, WD_move, DPureK_some, DReadK_some, pastR_nil, joinF_nil, setH_self, geT_put, evO_tmp, List.map_cons, List.map_nil, Nat.reduceEqDiff, Nat.reduceAdd, ↓reduceIte, eq_self, true_and, Nat.zero_add, e0, e3, e6, B0, A0, r0.len, lw]
      refine DCallK_of rfl (run9 hX ho) ?_
      rintro _ s2 ⟨b, rfl, hlen, hs2⟩
      have H2 := H1.keep hs2
      cases b with
      | true =>
        simp only [WD_move, WD_pick, pick_b, want_v, wantB_f, WD_nil, DPureK_some, joinF_nil, joinAll_nil, setH_self, Nat.testBit, Nat.reduceShiftRight, Nat.reduceAnd, Nat.reduceBneDiff, List.all_nil, List.all_cons, List.filter_nil, List.filter_cons, geT_put, evO_tmp, evO_const, keep_nil, keep_cons, keepK_eq, Nat.reduceEqDiff, Nat.reduceAdd, ↓reduceIte, Bool.not_true, Bool.and_true, Bool.true_or, eq_self, Bool.false_eq_true, true_and, e0, e3, e5, e6, e16, e17, WD_no_move, WD_no_bin]
        intro fr e0 e3 e5 e6 e16 e17 e30
        exact hR' _ _ ⟨true, e0, e3, e5, e6, e16, e17, e30, fun h => (by cases h), H2⟩
      | false =>
        have hl := hlen rfl
        simp only [WD_bin, WD_move, WD_pick, pick_b, bin_gtr, want_v, wantB_f, WD_nil, DPureK_some, joinF_nil, joinAll_nil, setH_self, Nat.testBit, Nat.reduceShiftRight, Nat.reduceAnd, Nat.reduceBneDiff, List.all_nil, List.all_cons, List.filter_nil, List.filter_cons, geT_put, evO_tmp, evO_const, keep_nil, keep_cons, keepK_eq, Nat.reduceEqDiff, Nat.reduceAdd, ↓reduceIte, Bool.not_true, Bool.not_false, Bool.and_true, Bool.true_or, eq_self, Bool.false_eq_true, true_and, e0, e3, e5, e6, e16, e17, WD_yes]
        intro fr e0 e3 e5 e6 e16 e17 e30
        exact hR' _ _ ⟨_, e0, e3, e5, e6, e16, e17, e30, fun h => ⟨hl, by have := of_decide_eq_false h; omega⟩, H2⟩
    clear e0 e3 e5 e6 e16 e17 fr H1 lw A0 r0 s1
    rintro fr s1 ⟨b, e0, e3, e5, e6, e16, e17, e30, hb, H1⟩
    obtain ⟨A0, r0⟩ := hc _ H1.same
    refine SeqK_n ?_
    cases b with
    | true =>
      refine W_seq (W_cond e30 (fun _ => ?_) (fun h => by cases h))
      refine W_seq (W_ops [4] ?_)
      simp only [o6_7, WO_call, List.map_nil]
      refine CallK_of works ?_
      rintro _ _ ⟨rfl, rfl⟩
      simp only [WO_move, WO_nil, geT_put, evO_tmp, keep_nil, keep_cons, keepK_eq, ↓reduceIte, eq_self]
      clear e0 e3 e5 e6 e16 e17 e30
      intro fr e4
      refine SeqK_n ?_
      exact W_ret (SeqK_r (BlkK_r (SeqK_r (LoopK_r (BlkK_r (SeqK_r (Ret1 e4 rfl)))))))
    | false =>
      obtain ⟨hl, hn2⟩ := hb rfl
      refine W_seq (W_cond e30 (fun h => by cases h) (fun _ => W_skip (SeqK_n ?_)))
      refine W_ops [0, 3, 5, 16, 17] ?_
      simp only [o6_8, WO_addrSl, WO_bin, WO_bu, WO_load, WO_move, bin_add, WO_nil, PureK_some, geT_put, evO_tmp, evO_const, keep_nil, keep_cons, keepK_eq, List.map_cons, List.map_nil, Nat.reduceEqDiff, ↓reduceIte, eq_self, e0, e3, e5, e6, e16, e17, B0, A0, r0.len, wrap_i64 (n := ((rows[k].length : Nat) : Int) + 1) (by omega) (by omega), wrap_i64 (n := ((tot (rows.take k) + k : Nat) : Int) + (((rows[k].length : Nat) : Int) + 1)) (by omega) (by omega)]
      clear e0 e3 e5 e6 e16 e17 e30
      intro fr e0 e3 e5 e16 e17
      have ht1 : ((tot (rows.take k) + k : Nat) : Int) + (((rows[k].length : Nat) : Int) + 1) = ((tot (rows.take (k + 1)) + (k + 1) : Nat) : Int) := by omega
      rw [ht1] at e5
      refine BlkK_n (SeqK_n ?_)
      refine W_ops [0, 3, 5, 16, 17] ?_
      simp only [o6_9, WO_bin, WO_move, bin_add, WO_nil, PureK_some, geT_put, evO_tmp, evO_const, keep_nil, keep_cons, keepK_eq, Nat.reduceEqDiff, ↓reduceIte, eq_self, e0, e3, e5, e16, e17, wrap_i64 (n := (k : Int) + 1) (by omega) (by omega)]
      clear e0 e3 e5 e16 e17
      intro fr e0 e3 e5 e16 e17
      refine LoopK_n (m' := m - 1) (by omega) ⟨k + 1, by omega, by omega, fun i hi h => ?_, e0, e3, e5, e16, by rw [e17]; rfl, H1⟩
      by_cases hik : i = k
      · subst hik; exact hl
      · exact hsm i hi (by omega)
  · obtain rfl : k = rows.length := by omega
    rw [List.take_length] at hn e5
    have hrl : rows.length ≤ 1048576 := by omega
    have hrn : ∀ r ∈ rows, r.length ≤ 1048576 := fun r hr => by
      obtain ⟨i, hi, rfl⟩ := List.mem_iff_getElem.1 hr
      have := hsm i hi hi
      omega
    refine LoopK_x (BlkK_e (SeqK_n ?_))
    have lT : loadV s1 none (.pointer (some ⟨Bk, 2, none⟩)) = some (.int .i64 t) := (lk H1 (List.mem_cons_self ..)).2.2.1
    refine W_assoc ?_
    refine W_seq (W_cutN (fun fr' s' => ∃ b, geT fr' 0 = mv ∧ geT fr' 3 = .pointer (some ⟨Bk, 0, none⟩) ∧ geT fr' 53 = .bool b ∧ s1 = s') ?_ ?_)
    · intro R' hR'
      obtain ⟨N, hN⟩ : ∃ N, N = tot rows + rows.length := ⟨_, rfl⟩
      rw [← hN] at e5
      by_cases h2 : (0 : Int) < ((N : Nat) : Int)
      · have h3 : ¬ ((N : Nat) : Int) = 0 := by omega
        have hq := tdiv_wrap (a := 8388608) (n := N) (by omega) (by omega)
        by_cases h4 : (8388608 : Int).tdiv ((N : Nat) : Int) < t
        · refine W_draw0 [0, 3, 53] rfl ?_
          simp only [d6_10, WD_bin, WD_fieldAddr, fieldAddr_p, WD_load, WD_move, WD_pick, pick_b, bin_gtr, bin_leq, bin_quo, want_v, wantB_t, WD_nil, DPureK_some, DReadK_some, pastR_nil, joinAll_nil, setH_self, geT_put, evO_tmp, evO_const, keep_nil, keep_cons, keepK_eq, Nat.reduceEqDiff, Nat.reduceAdd, ↓reduceIte, eq_self, true_and, Nat.zero_add, e0, e3, e5, decide_eq_true h2, WD_yes, lT, h3, hq, decide_eq_true h4]
          intro fr e0 e3 e53
          exact hR' _ _ ⟨_, e0, e3, e53, rfl⟩
        · skip
          refine W_draw0 [0, 3, 53] rfl ?_
          simp only [d6_10, WD_bin, WD_fieldAddr, fieldAddr_p, WD_load, WD_move, WD_pick, pick_b, bin_gtr, bin_quo, want_v, wantB_t, WD_nil, DPureK_some, DReadK_some, pastR_nil, joinAll_nil, setH_self, geT_put, evO_tmp, evO_const, keep_nil, keep_cons, keepK_eq, Nat.reduceEqDiff, Nat.reduceAdd, ↓reduceIte, eq_self, Bool.false_eq_true, true_and, Nat.zero_add, e0, e3, e5, decide_eq_true h2, WD_yes, lT, h3, hq, decide_eq_false h4, WD_no_move, WD_no_bin]
          intro fr e0 e3 e53
          exact hR' _ _ ⟨_, e0, e3, e53, rfl⟩
      · skip
        refine W_draw0 [0, 3, 53] rfl ?_
        simp only [d6_10, WD_bin, WD_move, WD_pick, pick_b, bin_gtr, want_v, wantB_t, WD_nil, DPureK_some, joinAll_nil, setH_self, geT_put, evO_tmp, evO_const, keep_nil, keep_cons, keepK_eq, Nat.reduceEqDiff, Nat.reduceAdd, ↓reduceIte, eq_self, Bool.false_eq_true, Nat.zero_add, e0, e3, e5, decide_eq_false h2, WD_no_move, WD_no_bin, WD_no_fieldAddr, WD_no_load]
        intro fr e0 e3 e53
        exact hR' _ _ ⟨_, e0, e3, e53, rfl⟩
    clear e0 e3 e5 e16 e17 e18 fr lT hn hlt hk
    rintro fr _ ⟨b, e0, e3, e53, rfl⟩
    refine SeqK_n ?_
    cases b with
    | true =>
      refine W_seq (W_cond e53 (fun _ => ?_) (fun h => by cases h))
      refine W_seq (W_ops [4] ?_)
      simp only [o6_11, WO_call, List.map_nil]
      refine CallK_of works ?_
      rintro _ _ ⟨rfl, rfl⟩
      simp only [WO_move, WO_nil, geT_put, evO_tmp, keep_nil, keep_cons, keepK_eq, ↓reduceIte, eq_self]
      clear e0 e3 e53
      intro fr e4
      refine SeqK_n ?_
      exact W_ret (SeqK_r (Ret1 e4 rfl))
    | false =>
      refine W_seq (W_cond e53 (fun h => by cases h) (fun _ => W_skip (SeqK_n ?_)))
      -- the copies
      have mk := makeSl_eq (s := s1) (bytes := 24) (l := 0) (c := rows.length + 1) (z := [.slice none 0 0]) (k := .i64) (k' := .i64) (i := 0) (j := ((rows.length : Nat) : Int) + 1) rfl (by omega) (Nat.zero_le _) (by omega) (by omega)
      have H2 := (H1.make (sz := 1) (c := rows.length + 1) (n := 0) (z := [.slice none 0 0]) rfl (Nat.zero_le _) (by unfold OPEN; omega)).makeL2 1 eU mk2
      refine W_seq (W_ops [0, 3, 7] ?_)
      simp only [o6_12, WO_bin, WO_bu, WO_makeSlice, WO_move, bin_add, WO_nil, PureK_some, NewK_some, geT_put, evO_tmp, evO_const, keep_nil, keep_cons, keepK_eq, List.map_cons, List.map_nil, Nat.reduceEqDiff, ↓reduceIte, eq_self, e0, e3, (hT.same H1.same).len, wrap_i64 (n := ((rows.length : Nat) : Int) + 1) (by omega) (by omega), mk]
      clear e0 e3 e53
      intro fr e0 e3 e7
      refine SeqK_n ?_
      generalize newAt s1 (.cells (repZ [.slice none 0 0] (rows.length + 1)) false) = s2 at H2 ⊢
      clear mk
      refine W_assoc ?_
      refine W_seq (W_ops [0, 3, 7, 60, 61] ?_)
      simp only [o6_13, WO_bu, WO_move, WO_nil, PureK_some, geT_put, evO_tmp, evO_const, keep_nil, keep_cons, keepK_eq, List.map_cons, List.map_nil, Nat.reduceEqDiff, ↓reduceIte, eq_self, e0, e3, e7, (hT.same H2.same).len]
      clear e0 e3 e7
      intro fr e0 e3 e7 e60 e61
      refine SeqK_n ?_
      refine W_seq (W_block (W_loop (fun m fr s2 => ∃ k tv, k + m = rows.length ∧ geT fr 0 = mv ∧ geT fr 3 = .pointer (some ⟨Bk, 0, none⟩) ∧ geT fr 7 = tv ∧ geT fr 60 = .int .i64 (rows.length : Nat) ∧ geT fr 61 = .int .i64 (k : Nat) ∧
        Hold s s2 [HP.tabL2 1 eU mk2 tv (rows.take k), HP.cell Bk (kC way g t nth times)]) rows.length ⟨0, _, by omega, e0, e3, e7, e60, e61, H2⟩ ?_))
      clear e0 e3 e7 e60 e61 fr H1 H2 s1 s2 m
      rintro m fr s1 ⟨k, tv, hk, e0, e3, e7, e60, e61, H⟩
      refine W_seq (W_ops [0, 3, 7, 60, 61, 62] ?_)
      simp only [o6_15, WO_bin, bin_lss, WO_nil, PureK_some, geT_put, evO_tmp, keep_nil, keep_cons, keepK_eq, Nat.reduceEqDiff, ↓reduceIte, eq_self, e0, e3, e7, e60, e61]
      clear e0 e3 e7 e60 e61
      intro fr e0 e3 e7 e60 e61 e62
      refine SeqK_n ?_
      refine W_while e62 (fun hlt => ?_) (fun hlt => ?_)
      · have hk1 : k < rows.length := by omega
        have hnk := hrn rows[k] (List.getElem_mem hk1)
        obtain ⟨c, B0, hc⟩ := hT.rowS hk1
        simp only [eU_map] at hc
        obtain ⟨A0, r0⟩ := hc _ H.same
        refine W_seq (W_block ?_)
        refine W_seq (W_ops [0, 3, 7, 8, 60, 61] ?_)
        simp only [o6_16, WO_move, WO_nil, geT_put, evO_tmp, keep_nil, keep_cons, keepK_eq, Nat.reduceEqDiff, ↓reduceIte, eq_self, e0, e3, e7, e60, e61]
        clear e0 e3 e7 e60 e61 e62
        intro fr e0 e3 e7 e8 e60 e61
        refine SeqK_n ?_
        refine W_ops [0, 3, 7, 60, 61] ?_
        simp only [o6_17, WO_addrSl, WO_call, WO_load, WO_move, PureK_some, geT_put, evO_tmp, List.map_cons, List.map_nil, Nat.reduceEqDiff, ↓reduceIte, eq_self, e0, e7, e8, B0, A0]
        refine CallK_of (run11 hX ho H r0 hnk) ?_
        rintro _ s3 ⟨room, rfl, H3⟩
        rw [← eU_map] at H3
        have H4 := H3.lend2 (n := rows[k].length) rfl
        have hone := (H4.lent2 (List.mem_cons_self ..)).one (eU_len _)
        generalize subS 1 room 0 rows[k].length = cv at H4 hone
        have hb2 : buildSlV s3 1 [.slice none 0 0] 1 [(0, 1, cv)] = some (.slice (some ⟨s3.nxt, 0, none⟩) 1 1, .cells [cv] false) := buildSl_sl hone
        have H5 := (H4.new [cv]).down3
        have hsc : srcCells (newAt s3 (.cells [cv] false)) 1 (.slice (some ⟨s3.nxt, 0, none⟩) 1 1) = some (1, [cv]) :=
          ((H4.new [cv]).cellOwn (sz := 1) (n := 1) rfl (by decide)).own (List.mem_cons_self ..) |>.slc.src
        obtain ⟨tv', s4, ap3, H6⟩ := H5.pushL2 (bytes := 24) (r := rows[k]) rfl hone hsc (by omega) (by omega) (by rw [List.length_take]; omega)
        have hta : rows.take k ++ [rows[k]] = rows.take (k + 1) := by rw [List.take_add_one, List.getElem?_eq_getElem hk1]; rfl
        rw [hta] at H6
        simp only [WO_append, WO_buildSlice, WO_move, WO_nil, MemK_some, NewK_some, geT_put, evO_tmp, keep_nil, keep_cons, keepK_eq, List.map_cons, List.map_nil, Nat.reduceEqDiff, ↓reduceIte, eq_self, Nat.mul_one, e0, e3, e60, e61, hb2, ap3]
        clear e0 e3 e7 e8 e60 e61
        intro fr e0 e3 e7 e60 e61
        refine BlkK_n (SeqK_n ?_)
        refine W_ops [0, 3, 7, 60, 61] ?_
        simp only [o6_18, WO_bin, WO_move, bin_add, WO_nil, PureK_some, geT_put, evO_tmp, evO_const, keep_nil, keep_cons, keepK_eq, Nat.reduceEqDiff, ↓reduceIte, eq_self, e0, e3, e7, e60, e61, wrap_i64 (n := (k : Int) + 1) (by omega) (by omega)]
        clear e0 e3 e7 e60 e61
        intro fr e0 e3 e7 e60 e61
        exact LoopK_n (m' := m - 1) (by omega) ⟨k + 1, tv', by omega, e0, e3, e7, e60, by rw [e61]; rfl, H6.sub (.cons_cons _ (.cons_cons _ (.cons _ (List.Sublist.refl _))))⟩
      · obtain rfl : k = rows.length := by omega
        rw [List.take_length] at H
        refine LoopK_x (BlkK_e (SeqK_n ?_))
        -- the two answers
        obtain ⟨k0, k1, k2, k3, k4⟩ := lk H (by simp)
        have hT1 := (H.tabL2 (List.mem_cons_self ..) eU_len).1
        refine W_seq (W_ops [0, 3, 7, 9, 10] ?_)
        simp only [o6_19, WO_call, WO_fieldAddr, fieldAddr_p, WO_load, WO_move, PureK_some, geT_put, evO_tmp, List.map_cons, List.map_nil, Nat.reduceEqDiff, ↓reduceIte, eq_self, Nat.zero_add, Nat.add_zero, e3, e7, k0, k1, k2, k3, k4]
        refine CallK_of (run26 hX ho (times := times) H hT1 hrl hrn hwy) ?_
        rintro _ s2 ⟨av, sp, e, rfl, hsp, H2⟩
        simp only [WO_extract, ext_20, ext_21, WO_move, WO_nil, PureK_some, geT_put, evO_tmp, keep_nil, keep_cons, keepK_eq, Nat.reduceEqDiff, ↓reduceIte, eq_self, e0, e3, e7]
        clear e0 e3 e7 e60 e61 e62
        intro fr e0 e3 e7 e9 e10
        refine SeqK_n ?_
        clear k0 k1 k2 k3 k4
        obtain ⟨k0, k1, k2, k3, k4⟩ := lk H2 (by simp)
        refine W_seq (W_ops [0, 7, 9, 10, 11, 12] ?_)
        simp only [o6_20, WO_call, WO_fieldAddr, fieldAddr_p, WO_load, WO_move, PureK_some, geT_put, evO_tmp, List.map_cons, List.map_nil, Nat.reduceEqDiff, ↓reduceIte, eq_self, Nat.zero_add, Nat.add_zero, e0, e3, k0, k1, k2, k3, k4]
        refine CallK_of (run27 hX ho (times := times) H2 (hT.same H2.same) hrl hrn ht) ?_
        rintro _ s3 ⟨bv, sq, f, rfl, hsq, H3⟩
        simp only [WO_extract, ext_20, ext_21, WO_move, WO_nil, PureK_some, geT_put, evO_tmp, keep_nil, keep_cons, keepK_eq, Nat.reduceEqDiff, ↓reduceIte, eq_self, e0, e7, e9, e10]
        clear e0 e3 e7 e9 e10
        intro fr e0 e7 e9 e10 e11 e12
        refine SeqK_n ?_
        clear k0 k1 k2 k3 k4
        obtain ⟨rfl, rfl⟩ := hsp.same hsq
        have sb := (H3.own (List.mem_cons_self ..)).slc
        have sa := (H3.up1.own (List.mem_cons_self ..)).slc
        refine W_assoc ?_
        refine W_seq (W_ops [0, 7, 9, 11, 112] ?_)
        simp only [o6_21, WO_bin, WO_bu, WO_move, WO_pick, pick_b, bin_neq, WO_nil, PureK_some, WO_guard, want_v, wantB_f, geT_put, evO_tmp, evO_const, keep_nil, keep_cons, keepK_eq, List.map_cons, List.map_nil, Nat.reduceEqDiff, ↓reduceIte, Bool.not_true, Bool.not_false, decide_true, eq_self, Bool.false_eq_true, e0, e7, e9, e10, e11, e12, sa.len, sb.len]
        clear e0 e7 e9 e10 e11 e12
        intro fr e0 e7 e9 e11 e112
        refine SeqK_n ?_
        refine W_seq (W_cond e112 (fun h => absurd h (by decide)) (fun _ => W_skip (SeqK_n ?_)))
        refine W_assoc ?_
        refine W_seq (W_ops [0, 7, 9, 11, 114, 115] ?_)
        simp only [o6_23, WO_bu, WO_move, WO_nil, PureK_some, geT_put, evO_tmp, evO_const, keep_nil, keep_cons, keepK_eq, List.map_cons, List.map_nil, Nat.reduceEqDiff, ↓reduceIte, eq_self, e0, e7, e9, e11, sa.len]
        clear e0 e7 e9 e11 e112
        intro fr e0 e7 e9 e11 e114 e115
        refine SeqK_n ?_
        have hspl : sp.length ≤ 4096 := hsp.len
        refine W_seq (W_block (W_loop (fun m fr s1 => ∃ (i : Nat) (cs : List Value), i + m = sp.length ∧ (∀ j, i * 3 ≤ j → cs[j]? = (sp.flatMap eSp)[j]?) ∧ geT fr 0 = mv ∧ geT fr 7 = tv ∧ geT fr 9 = av ∧ geT fr 11 = bv ∧ geT fr 114 = .int .i64 (sp.length : Nat) ∧ geT fr 115 = .int .i64 (i : Nat) ∧
          Hold s s1 [HP.own 3 av sp.length cs, HP.own 3 bv sp.length (sp.flatMap eSp), HP.tabL2 1 eU mk2 tv rows, HP.cell Bk (kC way g t nth times)]) sp.length ⟨0, _, by omega, fun _ _ => rfl, e0, e7, e9, e11, e114, e115, H3.up1⟩ ?_))
        clear e0 e7 e9 e11 e114 e115 fr H3 H2 H sa sb hT1 s1 s2 s3 hlt hk m
        rintro m fr s1 ⟨i, cs, hi, hok, e0, e7, e9, e11, e114, e115, H1⟩
        refine W_seq (W_ops [0, 7, 9, 11, 114, 115, 116] ?_)
        simp only [o6_25, WO_bin, bin_lss, WO_nil, PureK_some, geT_put, evO_tmp, keep_nil, keep_cons, keepK_eq, Nat.reduceEqDiff, ↓reduceIte, eq_self, e0, e7, e9, e11, e114, e115]
        clear e0 e7 e9 e11 e114 e115
        intro fr e0 e7 e9 e11 e114 e115 e116
        refine SeqK_n ?_
        refine W_while e116 (fun hlt => ?_) (fun hlt => ?_)
        · have hi1 : i < sp.length := by omega
          have oa := H1.own (List.mem_cons_self ..)
          have sa := oa.slc
          have sb := (H1.up1.own (List.mem_cons_self ..)).slc
          have A1 := sa.addr (kk := .i64) (i := (i : Int)) rfl hi1
          have B1 := sb.addr (kk := .i64) (i := (i : Int)) rfl hi1
          have fa := fun o => sa.fld (by omega) (i * 3) o
          have fb := fun o => sb.fld (by omega) (i * 3) o
          have hal := oa.length
          have LA : ∀ j, j < 3 → loadV s1 none (elP av (i * 3 + j)) = (eSp sp[i])[j]? := fun j hj => by
            have h1 : cs[i * 3 + j]? = (eSp sp[i])[j]? := by rw [hok _ (by omega), eSp_at hi1 hj]
            have h2 : ∃ x, (eSp sp[i])[j]? = some x := ⟨_, List.getElem?_eq_getElem (show j < (eSp sp[i]).length from hj)⟩
            obtain ⟨x, hx⟩ := h2
            rw [hx] at h1 ⊢
            exact sa.load h1
          have LB : ∀ j, j < 3 → loadV s1 none (elP bv (i * 3 + j)) = (eSp sp[i])[j]? := fun j hj => by
            have h1 : (sp.flatMap eSp)[i * 3 + j]? = (eSp sp[i])[j]? := eSp_at hi1 hj
            have h2 : ∃ x, (eSp sp[i])[j]? = some x := ⟨_, List.getElem?_eq_getElem (show j < (eSp sp[i]).length from hj)⟩
            obtain ⟨x, hx⟩ := h2
            rw [hx] at h1 ⊢
            exact sb.load h1
          have a0 : loadV s1 none (elP av (i * 3)) = some (.int .i64 (sp[i].1 : Nat)) := LA 0 (by omega)
          have a1 : loadV s1 none (elP av (i * 3 + 1)) = some (.int .i64 (sp[i].2.1 : Nat)) := LA 1 (by omega)
          have a2 : loadV s1 none (elP av (i * 3 + 2)) = some (.float .f64 sp[i].2.2.toNat) := LA 2 (by omega)
          have b0 : loadV s1 none (elP bv (i * 3)) = some (.int .i64 (sp[i].1 : Nat)) := LB 0 (by omega)
          have b1 : loadV s1 none (elP bv (i * 3 + 1)) = some (.int .i64 (sp[i].2.1 : Nat)) := LB 1 (by omega)
          have b2 : loadV s1 none (elP bv (i * 3 + 2)) = some (.float .f64 sp[i].2.2.toNat) := LB 2 (by omega)
          have fa0 : fieldAddrV 0 (elP av (i * 3)) = some (elP av (i * 3)) := fa 0
          have fb0 : fieldAddrV 0 (elP bv (i * 3)) = some (elP bv (i * 3)) := fb 0
          refine W_seq (W_block ?_)
          refine W_seq (W_ops [0, 7, 9, 11, 13, 114, 115] ?_)
          simp only [o6_26, WO_move, WO_nil, geT_put, evO_tmp, keep_nil, keep_cons, keepK_eq, Nat.reduceEqDiff, ↓reduceIte, eq_self, e0, e7, e9, e11, e114, e115]
          clear e0 e7 e9 e11 e114 e115 e116
          intro fr e0 e7 e9 e11 e13 e114 e115
          refine SeqK_n ?_
          refine W_assoc ?_
          refine W_seq (W_draw0 [0, 7, 9, 11, 13, 114, 115, 155] rfl ?_)
          simp only [d6_27, WD_addrSl, WD_bin, WD_call, WD_fieldAddr, WD_load, WD_move, WD_pick, pick_b, bin_neq, want_v, wantB_f, DPureK_some, DReadK_some, pastR_nil, joinF_nil, setH_self, geT_put, evO_tmp, evO_const, List.map_cons, List.map_nil, Nat.reduceEqDiff, Nat.reduceAdd, ↓reduceIte, Bool.not_true, Bool.not_false, decide_true, eq_self, Bool.false_eq_true, true_and, Nat.zero_add, e9, e11, e13, A1, B1, fa0, fb0, fa 1, fb 1, fa 2, fb 2, a0, a1, a2, b0, b1, b2, WD_yes]
          refine DCallK_of rfl (same_self hX ho) ?_
          rintro _ _ ⟨rfl, rfl⟩
          simp only [WD_pick, pick_b, WD_un, un_not, want_v, wantB_f, WD_nil, DPureK_some, joinF_nil, joinAll_nil, setH_self, Nat.testBit, Nat.reduceShiftRight, Nat.reduceAnd, Nat.reduceBneDiff, List.all_nil, List.all_cons, List.filter_nil, List.filter_cons, geT_put, evO_tmp, evO_const, keep_nil, keep_cons, keepK_eq, Nat.reduceEqDiff, Nat.reduceAdd, ↓reduceIte, Bool.not_true, Bool.not_false, Bool.and_true, Bool.true_or, eq_self, Bool.false_eq_true, true_and, e0, e7, e9, e11, e13, e114, e115, WD_yes]
          clear e0 e7 e9 e11 e13 e114 e115
          intro fr e0 e7 e9 e11 e13 e114 e115 e155
          refine SeqK_n ?_
          refine W_seq (W_cond e155 (fun h => by cases h) (fun _ => W_skip (SeqK_n ?_)))
          have hbu : buildV [.int .i64 0, .int .i64 0, .float .f64 0] [(0, 1, .int .i64 (-1))] = some (.agg z3.toArray) := rfl
          obtain ⟨s3, st3, H3⟩ := H1.storeN (m := 3) (k := i * 3) (vs := z3) rfl (by omega) (by omega) rfl
          refine W_ops [0, 7, 9, 11, 114, 115] ?_
          simp only [o6_29, WO_addrSl, WO_build, WO_move, WO_store, WO_nil, PureK_some, MemK_some, geT_put, puT_none, evO_tmp, evO_const, keep_nil, keep_cons, keepK_eq, List.map_cons, List.map_nil, Nat.reduceEqDiff, ↓reduceIte, eq_self, e0, e7, e9, e11, e13, e114, e115, A1, hbu, st3]
          clear e0 e7 e9 e11 e13 e114 e115
          intro fr e0 e7 e9 e11 e114 e115
          refine BlkK_n (SeqK_n ?_)
          refine W_ops [0, 7, 9, 11, 114, 115] ?_
          simp only [o6_30, WO_bin, WO_move, bin_add, WO_nil, PureK_some, geT_put, evO_tmp, evO_const, keep_nil, keep_cons, keepK_eq, Nat.reduceEqDiff, ↓reduceIte, eq_self, e0, e7, e9, e11, e114, e115, wrap_i64 (n := (i : Int) + 1) (by omega) (by omega)]
          clear e0 e7 e9 e11 e114 e115
          intro fr e0 e7 e9 e11 e114 e115
          refine LoopK_n (m' := m - 1) (by omega) ⟨i + 1, _, by omega, fun j hj => ?_, e0, e7, e9, e11, e114, by rw [e115]; rfl, H3⟩
          have hz : z3.length = 3 := rfl
          rw [putL_behind (by omega) (by omega)]
          exact hok j (by omega)
        · refine LoopK_x (BlkK_e (SeqK_n ?_))
          refine W_assoc ?_
          refine W_seq (W_ops [0, 7, 162, 163] ?_)
          simp only [o6_31, WO_bu, WO_move, WO_nil, PureK_some, geT_put, evO_tmp, evO_const, keep_nil, keep_cons, keepK_eq, List.map_cons, List.map_nil, Nat.reduceEqDiff, ↓reduceIte, eq_self, e0, e7, (hT.same H1.same).len]
          clear e0 e7 e9 e11 e114 e115 e116
          intro fr e0 e7 e162 e163
          refine SeqK_n ?_
          obtain ⟨hT1, _, hLe⟩ := H1.tabL2 (v := tv) (rows := rows) (mark := mk2) (e := eU) (sz := 1) (by simp) eU_len
          have hT2 := hT.same H1.same
          refine W_seq (W_block (W_loop (fun m fr s5 => ∃ i, i + m = rows.length ∧ s1 = s5 ∧ geT fr 0 = mv ∧ geT fr 7 = tv ∧ geT fr 162 = .int .i64 (rows.length : Nat) ∧ geT fr 163 = .int .i64 (i : Nat)) rows.length ⟨0, by omega, rfl, e0, e7, e162, e163⟩ ?_))
          clear e0 e7 e162 e163 fr
          rintro m2 fr _ ⟨j, hj, rfl, e0, e7, e162, e163⟩
          refine W_seq (W_ops [0, 7, 162, 163, 164] ?_)
          simp only [o6_33, WO_bin, bin_lss, WO_nil, PureK_some, geT_put, evO_tmp, keep_nil, keep_cons, keepK_eq, Nat.reduceEqDiff, ↓reduceIte, eq_self, e0, e7, e162, e163]
          clear e0 e7 e162 e163
          intro fr e0 e7 e162 e163 e164
          refine SeqK_n ?_
          refine W_while e164 (fun hlt2 => ?_) (fun hlt2 => ?_)
          · have hj1 : j < rows.length := by omega
            have hnj := hrn rows[j] (List.getElem_mem hj1)
            obtain ⟨c, A1, room, ow, hcr⟩ := hLe j hj1
            subst hcr
            rw [eU_map] at ow
            obtain ⟨c', B2, A2, r2⟩ := hT2.row hj1
            rw [eU_map] at r2
            obtain ⟨c'', B1, _, _⟩ := hT1.row hj1
            refine W_seq (W_block ?_)
            refine W_seq (W_ops [0, 7, 14, 162, 163] ?_)
            simp only [o6_34, WO_move, WO_nil, geT_put, evO_tmp, keep_nil, keep_cons, keepK_eq, Nat.reduceEqDiff, ↓reduceIte, eq_self, e0, e7, e162, e163]
            clear e0 e7 e162 e163 e164
            intro fr e0 e7 e14 e162 e163
            refine SeqK_n ?_
            refine W_seq (W_draw0 [0, 7, 162, 163, 175] rfl ?_)
            simp only [d6_35, WD_addrSl, WD_call, WD_load, WD_move, DPureK_some, DReadK_some, pastR_nil, joinF_nil, setH_self, geT_put, evO_tmp, List.map_cons, List.map_nil, Nat.reduceEqDiff, Nat.reduceAdd, ↓reduceIte, eq_self, true_and, Nat.zero_add, e0, e7, e14, B1, A1, B2, A2]
            refine DCallK_of rfl (run15 hX ho ow r2 hnj) ?_
            rintro _ _ ⟨rfl, rfl⟩
            simp only [WD_un, un_not, WD_nil, DPureK_some, joinF_nil, joinAll_nil, setH_self, Nat.testBit, Nat.reduceShiftRight, Nat.reduceAnd, Nat.reduceBneDiff, List.all_nil, List.all_cons, List.filter_nil, List.filter_cons, geT_put, evO_tmp, keep_nil, keep_cons, keepK_eq, Nat.reduceEqDiff, Nat.reduceAdd, ↓reduceIte, Bool.not_true, Bool.and_true, Bool.true_or, eq_self, Bool.false_eq_true, true_and, e0, e7, e162, e163]
            clear e0 e7 e14 e162 e163
            intro fr e0 e7 e162 e163 e175
            refine SeqK_n ?_
            refine W_cond e175 (fun h => by cases h) (fun _ => W_skip (BlkK_n (SeqK_n ?_)))
            refine W_ops [0, 7, 162, 163] ?_
            simp only [o6_37, WO_bin, WO_move, bin_add, WO_nil, PureK_some, geT_put, evO_tmp, evO_const, keep_nil, keep_cons, keepK_eq, Nat.reduceEqDiff, ↓reduceIte, eq_self, e0, e7, e162, e163, wrap_i64 (n := (j : Int) + 1) (by omega) (by omega)]
            clear e0 e7 e162 e163 e175
            intro fr e0 e7 e162 e163
            exact LoopK_n (m' := m2 - 1) (by omega) ⟨j + 1, by omega, rfl, e0, e7, e162, by rw [e163]; rfl⟩
          · refine LoopK_x (BlkK_e (SeqK_n ?_))
            refine W_seq (W_ops [4] ?_)
            simp only [o6_38, WO_call, List.map_nil]
            refine CallK_of works ?_
            rintro _ _ ⟨rfl, rfl⟩
            simp only [WO_move, WO_nil, geT_put, evO_tmp, keep_nil, keep_cons, keepK_eq, ↓reduceIte, eq_self]
            clear e0 e7 e162 e163 e164
            intro fr e4
            refine SeqK_n ?_
            exact W_ret (Ret1 e4 rfl)

end Go.Proofs.Ytfjdihfflghfpaa

/- CfarMaps: its run at any arguments. -/
namespace Go.Proofs.Ytfjdihfflghfpaa
open Go Go.Vam Go.Sort

theorem c22 : Try.prog.cellsOf 22 = 1 := by decide +kernel

set_option maxRecDepth 100000 in
/-- A map that is handed in. -/
theorem map_open {T : Type} {s : Mm} (hs : Lt s) {v : Value} {d : DataW T} (h : AbsV Try.prog s 47 v d) : ∃ rows : List (List UInt64), TabE s 1 eU v rows := by
  unfold AbsV at h
  rw [Try.underlying47] at h
  obtain ⟨w, rows, h1, h2, _⟩ := Abs.tabB (f := fun x : UInt64 => Value.float .f64 x.toNat) (p := fun _ => True) bulk hs Try.underlying47 Try.underlying22 c22 c24 h (fun l d hl => by
    obtain ⟨n, k, _, w⟩ := Abs.f Try.underlying24 hl
    refine ⟨UInt64.ofNat n, ?_, trivial⟩
    rw [UInt64.toNat_ofNat', Nat.mod_eq_of_lt (wfl n w)]
    exact k)
  cases h1
  exact ⟨rows, h2⟩

set_option maxRecDepth 100000 in
theorem runCfarMaps {T : Type} {s : Mm} {avs : List Value} {ds : List (DataW T)} (hs : Lt s) (h : AbsL Try.prog s [47, 26] avs ds) : CallP ⟨orcW 10, fnsOf Try.prog⟩ 6 avs s (fun v _ => v = .bool true) := by
  obtain ⟨v0, vs, d0, ds, rfl, rfl, h0, h⟩ := AbsL.cons h
  obtain ⟨v1, vs, d1, ds, rfl, rfl, h1, h⟩ := AbsL.cons h
  obtain ⟨rfl, rfl⟩ := AbsL.nil h
  obtain ⟨rows, g1⟩ := map_open hs h0
  obtain ⟨way, g, t, nth, times, rfl, hw, ht⟩ := look_open h1
  exact run6 (X := ⟨orcW 10, fnsOf Try.prog⟩) rfl (fun f args hf => orcW_other hf.1 args) (orcW_self 10) g1 hw ht

end Go.Proofs.Ytfjdihfflghfpaa
