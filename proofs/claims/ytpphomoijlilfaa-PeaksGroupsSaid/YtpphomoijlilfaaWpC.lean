/- Tables whose rows are lent slices. -/
import Derived.Test.YtpphomoijlilfaaWpB
namespace Go.Vam
open Go
variable {s s' s0 : Mm}
theorem Own.lent_foot {sz N n : Nat} {v : Value} {cs : List Value} (h : Own s sz v N cs) (hN : 0 < N) (hn : n ≤ N) : ∀ B, footV (subS sz v 0 n) B ↔ footV v B := by
  intro B'
  cases h with
  | nil => omega
  | @opn B N cs hg hB hl hz =>
    have := slV_half (a := some ⟨B, 0, none⟩) hz (Nat.le_refl N) (bounds_lh (len := N) hn (Nat.zero_le n))
    rw [halfC_self] at this
    rw [subS, this]
    simp only [Option.map_some, add_none', Option.getD_some, footV]
  | @cap B N c cs rest hg hB hl hr hN hc =>
    simp only [subS, slV, if_pos hc, bounds_lh (len := N) (show n ≤ c by omega) (Nat.zero_le n), Option.getD_some]
    split <;> simp [add_none', footV]
def Lent (s : Mm) (sz : Nat) (c : Value) (n : Nat) (cs mark : List Value) : Prop := ∃ room, Own s sz room (n + 1) (cs ++ mark) ∧ c = subS sz room 0 n
theorem Lent.same {sz n : Nat} {c : Value} {cs mark : List Value} {F : Nat → Prop} (h : Lent s sz c n cs mark) (g : Same s s' F) (hF : ∀ B, footV c B → ¬ F B) : Lent s' sz c n cs mark := by
  obtain ⟨room, h1, rfl⟩ := h
  exact ⟨room, h1.same g (fun B hB => hF B ((h1.lent_foot (by omega) (by omega) B).2 hB)), rfl⟩
theorem Lent.slc {sz n : Nat} {c : Value} {cs mark : List Value} (h : Lent s sz c n cs mark) (hl : cs.length = n * sz) : SlC s sz c n cs := by
  obtain ⟨room, h1, rfl⟩ := h
  have := h1.slc.sub (Nat.zero_le n) (Nat.le_succ n)
  rw [Nat.sub_zero, Nat.zero_mul, List.drop_zero, ← hl, List.take_left] at this
  exact this
theorem Lent.one {sz n : Nat} {c : Value} {cs mark : List Value} (h : Lent s sz c n cs mark) (hl : cs.length = n * sz) : oneCell c = true := (h.slc hl).one
theorem Lent.mark {sz n : Nat} {c : Value} {cs mark : List Value} (h : Lent s sz c n cs mark) {k : IntKind} {i : Int} (hi : i = (n : Nat) + 1) : ∃ room, slV sz c none (some (.int k i)) none = some room ∧ SlC s sz room (n + 1) (cs ++ mark) := by
  obtain ⟨room, h1, rfl⟩ := h
  exact ⟨room, h1.lent (Nat.le_succ n) (by omega), h1.slc⟩
theorem Lent.foot {sz n : Nat} {c : Value} {cs mark : List Value} (h : Lent s sz c n cs mark) : ∀ B, footV c B → B < s.nxt := by
  obtain ⟨room, h1, rfl⟩ := h
  intro B hB
  exact h1.slc.foot B ((h1.lent_foot (by omega) (by omega) B).1 hB)
def HP.lent (sz : Nat) (c : Value) (n : Nat) (cs mark : List Value) : HP where
  p s K := Lent s sz c n cs mark ∧ K = footV c
  loc := by rintro s s' K F ⟨h, rfl⟩ g hd; exact ⟨h.same g hd, rfl⟩
theorem Hold.lend {l : List HP} {sz n N : Nat} {room : Value} {cs mark : List Value} (h : Hold s0 s (HP.own sz room N (cs ++ mark) :: l)) (hN : N = n + 1) : Hold s0 s (HP.lent sz (subS sz room 0 n) n cs mark :: l) := by
  subst hN
  refine h.upd ?_
  rintro K ⟨h1, rfl⟩ h2
  exact ⟨_, ⟨⟨room, h1, rfl⟩, rfl⟩, .refl _ _, fun B hB => ⟨.inl ((h1.lent_foot (by omega) (by omega) B).1 hB), (h2 B ((h1.lent_foot (by omega) (by omega) B).1 hB)).1⟩⟩
theorem Hold.lent {l : List HP} {sz n : Nat} {c : Value} {cs mark : List Value} (h : Hold s0 s l) (hm : HP.lent sz c n cs mark ∈ l) : Lent s sz c n cs mark := by
  obtain ⟨K, ⟨a, _⟩, _⟩ := h.mem hm; exact a
def HP.tabL {α : Type} (sz : Nat) (e : α → List Value) (mark : List Value) (v : Value) (rows : List (List α)) : HP where
  p s K := ∃ rc : List Value, Own s 1 v rows.length rc ∧ (∀ B, footV v B → K B) ∧ (∀ B, K B → B < s.nxt) ∧
    ∀ (i : Nat) (r : List α), rows[i]? = some r → ∃ c, rc[i]? = some c ∧ Lent s sz c r.length (r.flatMap e) mark ∧ ∀ B, footV c B → K B ∧ ¬ footV v B
  loc := by
    rintro s s' K F ⟨cells, a, k, kl, b⟩ g hd
    exact ⟨cells, a.same g (fun x hx => hd x (k x hx)), k, fun B hB => Nat.lt_of_lt_of_le (kl B hB) g.nxt, fun i r h => let ⟨x, y, z, w⟩ := b i r h; ⟨x, y, z.same g (fun x hx => hd x (w x hx).1), w⟩⟩
theorem Hold.tabL {α : Type} {l : List HP} {sz : Nat} {e : α → List Value} {mark : List Value} {v : Value} {rows : List (List α)} (h : Hold s0 s l) (hm : HP.tabL sz e mark v rows ∈ l) (he : ∀ r : List α, (r.flatMap e).length = r.length * sz) :
    TabE s sz e v rows ∧ oneCell v = true ∧ ∀ (i : Nat) (hi : i < rows.length), ∃ c, loadV s none (elP v i) = some c ∧ Lent s sz c rows[i].length (rows[i].flatMap e) mark := by
  obtain ⟨K, ⟨cells, a, k, kl, b⟩, _⟩ := h.mem hm
  refine ⟨⟨cells, a.slc, fun i r hr => let ⟨x, y, z, _⟩ := b i r hr; ⟨x, y, z.slc (he r)⟩⟩, a.one, fun i hi => ?_⟩
  obtain ⟨c, y, z, _⟩ := b i rows[i] (by simp [hi])
  exact ⟨c, a.slc.load y, z⟩
end Go.Vam
