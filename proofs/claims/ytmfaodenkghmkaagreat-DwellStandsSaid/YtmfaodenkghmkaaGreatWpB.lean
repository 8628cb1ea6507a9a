/- Memory that is held in parts which lie apart. -/
import Derived.Test.YtmfaodenkghmkaaGreatWpA
namespace Go.Vam
open Go

variable {s s' s0 : Mm}

/-- What holds of some blocks, whatever becomes of the others. -/
structure HP where
  p : Mm → (Nat → Prop) → Prop
  loc : ∀ {s s' : Mm} {K F : Nat → Prop}, p s K → Same s s' F → (∀ B, K B → ¬ F B) → p s' K

/-- Parts that lie apart, none of them in R. -/
def Sep (s : Mm) : (Nat → Prop) → List HP → Prop
  | _, [] => True
  | R, P :: l => ∃ K : Nat → Prop, P.p s K ∧ (∀ B, K B → B < s.nxt ∧ ¬ R B) ∧ Sep s (fun B => R B ∨ K B) l

theorem Sep.anti : ∀ {l : List HP} {R R' : Nat → Prop}, Sep s R l → (∀ B, B < s.nxt → R' B → R B) → Sep s R' l := by
  intro l
  induction l with
  | nil => intro R R' _ _; trivial
  | cons P l ih =>
    rintro R R' ⟨K, h1, h2, h3⟩ h
    exact ⟨K, h1, fun B hB => ⟨(h2 B hB).1, fun hr => (h2 B hB).2 (h B (h2 B hB).1 hr)⟩, ih h3 (fun B hB hx => hx.elim (fun a => .inl (h B hB a)) .inr)⟩

theorem Sep.frame : ∀ {l : List HP} {R F : Nat → Prop}, Sep s R l → Same s s' F → (∀ B, F B → R B) → Sep s' R l := by
  intro l
  induction l with
  | nil => intro R F _ _ _; trivial
  | cons P l ih =>
    rintro R F ⟨K, h1, h2, h3⟩ hs h
    exact ⟨K, P.loc h1 hs (fun B hB hF => (h2 B hB).2 (h B hF)), fun B hB => ⟨Nat.lt_of_lt_of_le (h2 B hB).1 hs.nxt, (h2 B hB).2⟩, ih h3 hs (fun B hB => .inl (h B hB))⟩

theorem Sep.mem : ∀ {l : List HP} {R : Nat → Prop} {P : HP}, Sep s R l → P ∈ l → ∃ K, P.p s K ∧ ∀ B, K B → B < s.nxt ∧ ¬ R B := by
  intro l
  induction l with
  | nil => intro R P _ h; simp at h
  | cons Q l ih =>
    rintro R P ⟨K, h1, h2, h3⟩ h
    rcases List.mem_cons.1 h with rfl | h
    · exact ⟨K, h1, h2⟩
    · obtain ⟨K', a, b⟩ := ih h3 h
      exact ⟨K', a, fun B hB => ⟨(b B hB).1, fun hr => (b B hB).2 (.inl hr)⟩⟩

/-- What is held, since a state s0 whose blocks stay as they are. -/
structure Hold (s0 s : Mm) (l : List HP) : Prop where
  same : Same s0 s (fun _ => False)
  sep : Sep s (fun B => B < s0.nxt) l

theorem Hold.mem {l : List HP} {P : HP} (h : Hold s0 s l) (hm : P ∈ l) : ∃ K, P.p s K ∧ ∀ B, K B → B < s.nxt ∧ s0.nxt ≤ B := by
  obtain ⟨K, a, b⟩ := h.sep.mem hm
  exact ⟨K, a, fun B hB => ⟨(b B hB).1, Nat.le_of_not_lt (b B hB).2⟩⟩

theorem Hold.refl (s : Mm) : Hold s s [] := ⟨.refl _ _, trivial⟩

theorem Hold.up1 {l : List HP} {P Q : HP} (h : Hold s0 s (P :: Q :: l)) : Hold s0 s (Q :: P :: l) := by
  obtain ⟨hs, K, h1, h2, K', h3, h4, h5⟩ := h
  exact ⟨hs, K', h3, fun B hB => ⟨(h4 B hB).1, fun hr => (h4 B hB).2 (.inl hr)⟩, K, h1, fun B hB => ⟨(h2 B hB).1, fun hr => hr.elim (h2 B hB).2 (fun hk => (h4 B hk).2 (.inr hB))⟩,
    h5.anti (fun B _ hx => hx.elim (fun a => a.elim (fun b => .inl (.inl b)) .inr) (fun a => .inl (.inr a)))⟩

theorem Hold.tail {l : List HP} {P : HP} (h : Hold s0 s (P :: l)) : Hold s0 s l := by
  obtain ⟨hs, K, h1, h2, h3⟩ := h
  exact ⟨hs, h3.anti (fun B _ hx => .inl hx)⟩

/-- One part is turned. -/
theorem Hold.upd {l : List HP} {P Q : HP} (h : Hold s0 s (P :: l)) (f : ∀ K, P.p s K → (∀ B, K B → B < s.nxt ∧ s0.nxt ≤ B) → ∃ K', Q.p s' K' ∧ Same s s' K ∧ ∀ B, K' B → (K B ∨ s.nxt ≤ B) ∧ B < s'.nxt) : Hold s0 s' (Q :: l) := by
  obtain ⟨hs, K, h1, h2, h3⟩ := h
  obtain ⟨K', g1, g2, g3⟩ := f K h1 (fun B hB => ⟨(h2 B hB).1, Nat.le_of_not_lt (h2 B hB).2⟩)
  refine ⟨hs.trans g2 (fun _ _ h => h) (fun B hB hk => (h2 B hk).2 hB), K', g1, fun B hB => ⟨(g3 B hB).2, fun hr => ?_⟩, ?_⟩
  · rcases (g3 B hB).1 with h | h
    · exact (h2 B h).2 hr
    · exact absurd (Nat.lt_of_lt_of_le hr hs.nxt) (Nat.not_lt.2 h)
  · have h4 : Sep s (fun B => (B < s0.nxt ∨ K B) ∨ s.nxt ≤ B) l := h3.anti (fun B hB hx => hx.elim id (fun h => absurd hB (Nat.not_lt.2 h)))
    refine (h4.frame g2 (fun B hB => .inl (.inr hB))).anti (fun B _ hx => ?_)
    rcases hx with h | h
    · exact .inl (.inl h)
    · rcases (g3 B h).1 with h | h
      · exact .inl (.inr h)
      · exact .inr h

/-- One part more, of new blocks. -/
theorem Hold.add {l : List HP} {Q : HP} {K' : Nat → Prop} (h : Hold s0 s l) (hs : Same s s' (fun _ => False)) (hQ : Q.p s' K') (hK : ∀ B, K' B → s.nxt ≤ B ∧ B < s'.nxt) : Hold s0 s' (Q :: l) := by
  have h4 : Sep s (fun B => B < s0.nxt ∨ s.nxt ≤ B) l := h.sep.anti (fun B hB hx => hx.elim id (fun h => absurd hB (Nat.not_lt.2 h)))
  have n0 := h.same.nxt
  refine ⟨h.same.trans hs (fun _ _ h => h) (fun _ _ h => h), K', hQ, fun B hB => ⟨(hK B hB).2, fun hr => by have := (hK B hB).1; omega⟩, (h4.frame hs (fun _ h => h.elim)).anti (fun B _ hx => hx.elim .inl (fun h => .inr (hK B h).1))⟩

/-- What a call lays, beside what is held. -/
theorem Hold.app {l l' : List HP} (h : Hold s0 s l) (g : Hold s s' l') : Hold s0 s' (l' ++ l) := by
  have h4 : Sep s (fun B => B < s0.nxt ∨ s.nxt ≤ B) l := h.sep.anti (fun B hB hx => hx.elim id (fun h => absurd hB (Nat.not_lt.2 h)))
  have h5 := h4.frame g.same (fun _ h => h.elim)
  refine ⟨h.same.trans g.same (fun _ _ h => h) (fun _ _ h => h), ?_⟩
  have n0 := h.same.nxt
  have key : ∀ (l' : List HP) (R : Nat → Prop), Sep s' R l' → (∀ B, B < s.nxt → R B) → ∀ R' : Nat → Prop, (∀ B, R' B → R B ∧ (B < s0.nxt ∨ s.nxt ≤ B)) → Sep s' R' (l' ++ l) := by
    intro l'
    induction l' with
    | nil => intro R _ _ R' h; exact h5.anti (fun B _ hB => (h B hB).2)
    | cons P l' ih =>
      rintro R ⟨K, h1, h2, h3⟩ hR R' h
      refine ⟨K, h1, fun B hB => ⟨(h2 B hB).1, fun hr => (h2 B hB).2 (h B hr).1⟩, ih _ h3 (fun B hB => .inl (hR B hB)) _ (fun B hB => ?_)⟩
      rcases hB with hB | hB
      · exact ⟨.inl (h B hB).1, (h B hB).2⟩
      · exact ⟨.inr hB, .inr (Nat.le_of_not_lt fun hlt => (h2 B hB).2 (hR B hlt))⟩
  exact key l' _ g.sep (fun _ h => h) _ (fun B hB => ⟨Nat.lt_of_lt_of_le hB n0, .inl hB⟩)

theorem Hold.keep {l : List HP} (h : Hold s0 s l) (hs : Same s s' (fun _ => False)) : Hold s0 s' l := h.app (l' := []) ⟨hs, trivial⟩

/-! ## Kinds of parts -/

/-- A slice of one's own. -/
def HP.own (sz : Nat) (v : Value) (n : Nat) (cs : List Value) : HP where
  p s K := Own s sz v n cs ∧ K = footV v
  loc := by rintro s s' K F ⟨h, rfl⟩ g hd; exact ⟨h.same g hd, rfl⟩

/-- A block. -/
def HP.cell (B : Nat) (cs : List Value) : HP where
  p s K := Store.get s.h B = some (.cells cs false) ∧ B < s.nxt ∧ K = (· = B)
  loc := by rintro s s' K F ⟨h, hb, rfl⟩ g hd; exact ⟨by rw [g.get _ hb (hd B rfl)]; exact h, Nat.lt_of_lt_of_le hb g.nxt, rfl⟩

/-- A slice whose first cells are slices that lie apart from it, its other cells tl. -/
def HP.tab {α : Type} (sz : Nat) (e : α → List Value) (v : Value) (rows : List (List α)) (tl : List Value) : HP where
  p s K := ∃ rc : List Value, Own s 1 v (rows.length + tl.length) (rc ++ tl) ∧ rc.length = rows.length ∧ (∀ B, footV v B → K B) ∧ (∀ B, K B → B < s.nxt) ∧
    ∀ (i : Nat) (r : List α), rows[i]? = some r → ∃ c, rc[i]? = some c ∧ SlC s sz c r.length (r.flatMap e) ∧ ∀ B, footV c B → K B ∧ ¬ footV v B
  loc := by
    rintro s s' K F ⟨cells, a, o, k, kl, b⟩ g hd
    exact ⟨cells, a.same g (fun x hx => hd x (k x hx)), o, k, fun B hB => Nat.lt_of_lt_of_le (kl B hB) g.nxt, fun i r h => let ⟨x, y, z, w⟩ := b i r h; ⟨x, y, z.same g (fun x hx => hd x (w x hx).1), w⟩⟩

/-- A table that may be read. -/
def TabE {α : Type} (s : Mm) (sz : Nat) (e : α → List Value) (v : Value) (rows : List (List α)) : Prop :=
  ∃ cells, SlC s 1 v rows.length cells ∧ ∀ (i : Nat) (r : List α), rows[i]? = some r → ∃ c, cells[i]? = some c ∧ SlC s sz c r.length (r.flatMap e)

theorem TabE.same {α : Type} {sz : Nat} {e : α → List Value} {v : Value} {rows : List (List α)} (h : TabE s sz e v rows) (hs : Same s s' (fun _ => False)) : TabE s' sz e v rows := by
  obtain ⟨c, a, b⟩ := h
  exact ⟨c, a.same hs (fun _ _ h => h), fun i r h => let ⟨x, y, z⟩ := b i r h; ⟨x, y, z.same hs (fun _ _ h => h)⟩⟩

theorem TabE.len {α : Type} {sz : Nat} {e : α → List Value} {v : Value} {rows : List (List α)} (h : TabE s sz e v rows) : buV .len [v] = some (.int .i64 rows.length) := by
  obtain ⟨c, a, b⟩ := h; exact a.len

/-- A row of a table. -/
theorem TabE.row {α : Type} {sz : Nat} {e : α → List Value} {v : Value} {rows : List (List α)} (h : TabE s sz e v rows) {k : Nat} (hk : k < rows.length) :
    ∃ c, addrSlV 1 v (.int .i64 (k : Nat)) = some (elP v k) ∧ loadV s none (elP v k) = some c ∧ SlC s sz c rows[k].length (rows[k].flatMap e) := by
  obtain ⟨c, a, b⟩ := h
  obtain ⟨x, y, z⟩ := b k rows[k] (by simp [hk])
  exact ⟨x, by have := a.addr (kk := .i64) (i := (k : Int)) rfl hk; rwa [Nat.mul_one] at this, a.load y, z⟩

theorem Hold.own {l : List HP} {sz n : Nat} {v : Value} {cs : List Value} (h : Hold s0 s l) (hm : HP.own sz v n cs ∈ l) : Own s sz v n cs := by
  obtain ⟨K, ⟨a, _⟩, _⟩ := h.mem hm; exact a

theorem Hold.cell {l : List HP} {B : Nat} {cs : List Value} (h : Hold s0 s l) (hm : HP.cell B cs ∈ l) : Store.get s.h B = some (.cells cs false) := by
  obtain ⟨K, ⟨a, _⟩, _⟩ := h.mem hm; exact a

theorem Hold.tab {α : Type} {l : List HP} {sz : Nat} {e : α → List Value} {v : Value} {rows : List (List α)} (h : Hold s0 s l) (hm : HP.tab sz e v rows [] ∈ l) : TabE s sz e v rows := by
  obtain ⟨K, ⟨cells, a, o, k, kl, b⟩, _⟩ := h.mem hm
  rw [List.append_nil] at a
  exact ⟨cells, a.slc, fun i r h => let ⟨x, y, z, _⟩ := b i r h; ⟨x, y, z⟩⟩

/-- A new block. -/
theorem Hold.new {l : List HP} (cs : List Value) (h : Hold s0 s l) : Hold s0 (newAt s (.cells cs false)) (HP.cell s.nxt cs :: l) :=
  h.add .new (K' := (· = s.nxt)) ⟨by rw [get_new, if_pos rfl], by rw [nxt_new]; omega, rfl⟩ (fun B hB => by rw [nxt_new]; omega)

/-- A block is written. -/
theorem Hold.setc {l : List HP} {B : Nat} {cs cs' : List Value} (h : Hold s0 s (HP.cell B cs :: l)) : Hold s0 (setBlk s B (.cells cs' false)) (HP.cell B cs' :: l) := by
  refine h.upd ?_
  rintro K ⟨h1, h2, rfl⟩ h3
  exact ⟨(· = B), ⟨by rw [get_set, if_pos rfl], h2, rfl⟩, .set rfl, fun B' hB => ⟨.inl hB, (h3 B' hB).1⟩⟩

theorem Hold.make {l : List HP} {sz c n : Nat} {z : List Value} (h : Hold s0 s l) (hz : z.length = sz) (hn : n ≤ c) (hc : c < OPEN) :
    Hold s0 (newAt s (.cells (repZ z c) false)) (HP.own sz (.slice (some ⟨s.nxt, 0, none⟩) n c) n (repZ z n) :: l) :=
  h.add .new (K' := footV (.slice (some ⟨s.nxt, 0, none⟩) n c)) ⟨own_make hz hn hc, rfl⟩ (fun B hB => by simp only [footV] at hB; rw [nxt_new]; omega)

theorem Hold.nil {l : List HP} (sz : Nat) (h : Hold s0 s l) : Hold s0 s (HP.own sz (.slice none 0 0) 0 [] :: l) :=
  h.add (.refl _ _) (K' := footV (.slice none 0 0)) ⟨.nil, rfl⟩ (fun B hB => hB.elim)

theorem repZ_1 (z : Value) : ∀ n, repZ [z] n = List.replicate n z := by
  intro n
  induction n with
  | zero => rfl
  | succ n ih => simp only [repZ, ih, List.replicate_succ]; rfl

theorem Hold.makeT {α : Type} {l : List HP} {c : Nat} {z : Value} (sz : Nat) (e : α → List Value) (h : Hold s0 s l) (hc : c < OPEN) :
    Hold s0 (newAt s (.cells (repZ [z] c) false)) (HP.tab sz e (.slice (some ⟨s.nxt, 0, none⟩) c c) [] (List.replicate c z) :: l) :=
  h.add .new (K' := footV (.slice (some ⟨s.nxt, 0, none⟩) c c)) ⟨[], by
      have := own_make (s := s) (z := [z]) (sz := 1) rfl (Nat.le_refl c) hc
      rw [repZ_1] at this ⊢
      simpa using this, rfl, fun B hB => hB, fun B hB => by simp only [footV] at hB; rw [nxt_new]; omega, fun i r h => by simp at h⟩ (fun B hB => by simp only [footV] at hB; rw [nxt_new]; omega)

/-- append to a slice of one's own. -/
theorem Hold.append {l : List HP} {sz n m bytes : Nat} {v xv : Value} {cs new : List Value} (h : Hold s0 s (HP.own sz v n cs :: l)) (hx : srcCells s sz xv = some (m, new)) (hnew : new.length = m * sz) (hone : new.all oneCell = true)
    (hsz : 0 < sz) (hszO : sz < OPEN) (hb : 0 < bytes) (hb2 : bytes ≤ 1048576) (hsize : (n + m) * bytes ≤ 140737488355328) :
    ∃ v' s', appendV s bytes sz v xv = some (v', s') ∧ Hold s0 s' (HP.own sz v' (n + m) (cs ++ new) :: l) := by
  obtain ⟨v', s', ap, k1, k2, k3⟩ := (h.own (List.mem_cons_self ..)).append hx hnew hone hsz hszO hb hb2 hsize
  refine ⟨v', s', ap, h.upd ?_⟩
  rintro K ⟨_, rfl⟩ _
  exact ⟨footV v', ⟨k1, rfl⟩, k2, fun B hB => ⟨k3 B hB, k1.slc.foot B hB⟩⟩

/-- A cell of a slice of one's own is written. -/
theorem Hold.store {l : List HP} {sz n k : Nat} {v x : Value} {cs : List Value} (h : Hold s0 s (HP.own sz v n cs :: l)) (hk : k < cs.length) (hx : oneCell x = true) :
    ∃ s', storeV s 1 (elP v k) x = some (undefV, s') ∧ Hold s0 s' (HP.own sz v n (cs.set k x) :: l) := by
  obtain ⟨s', st, k1, k2⟩ := (h.own (List.mem_cons_self ..)).store hk hx
  refine ⟨s', st, h.upd ?_⟩
  rintro K ⟨_, rfl⟩ _
  exact ⟨footV v, ⟨k1, rfl⟩, k2, fun B hB => ⟨.inl hB, k1.slc.foot B hB⟩⟩

/-- One element more. -/
theorem Hold.push {l : List HP} {sz n bytes : Nat} {v : Value} {cs new : List Value} (h : Hold s0 s (HP.own sz v n cs :: l)) (hnew : new.length = sz) (hone : new.all oneCell = true)
    (hsz : 0 < sz) (hszO : sz < OPEN) (hb : 0 < bytes) (hb2 : bytes ≤ 1048576) (hsize : (n + 1) * bytes ≤ 140737488355328) :
    ∃ v' s', appendV (newAt s (.cells new false)) bytes sz v (.slice (some ⟨s.nxt, 0, none⟩) 1 1) = some (v', s') ∧ Hold s0 s' (HP.own sz v' (n + 1) (cs ++ new) :: l) := by
  have hsc : SlC (newAt s (.cells new false)) sz (.slice (some ⟨s.nxt, 0, none⟩) 1 1) 1 new :=
    .mk blk_new_self (by rw [nxt_new]; omega) (by simp [← hnew]) (by omega) (.inl ⟨by omega, by unfold OPEN; omega⟩)
  obtain ⟨v', s', ap, g⟩ := (h.new new).up1.append (bytes := bytes) hsc.src (by omega) hone hsz hszO hb hb2 hsize
  exact ⟨v', s', ap, g.up1.tail⟩

/-- The next cell of a table is written. -/
theorem Hold.tabStore {α : Type} {l : List HP} {sz : Nat} {e : α → List Value} {v c x : Value} {rows : List (List α)} {tl : List Value} (h : Hold s0 s (HP.tab sz e v rows (x :: tl) :: l)) (hc : oneCell c = true) :
    ∃ s', storeV s 1 (elP v rows.length) c = some (undefV, s') ∧ Hold s0 s' (HP.tab sz e v rows (c :: tl) :: l) := by
  obtain ⟨K, ⟨rc, a, o, k, kl, b⟩, _⟩ := h.mem (List.mem_cons_self ..)
  obtain ⟨s', st, k1, k2⟩ := a.store (k := rows.length) (x := c) (by simp; omega) hc
  refine ⟨s', st, h.upd ?_⟩
  rintro K ⟨rc, a, o, k, kl, b⟩ hK
  obtain ⟨s2, st2, k1, k2⟩ := a.store (k := rows.length) (x := c) (by simp; omega) hc
  rw [st] at st2
  obtain rfl : s' = s2 := by simpa using st2
  refine ⟨K, ⟨rc, ?_, o, k, fun B hB => Nat.lt_of_lt_of_le (kl B hB) k2.nxt, fun i r h => let ⟨x, y, z, w⟩ := b i r h; ⟨x, y, z.same k2 (fun B hB => (w B hB).2), w⟩⟩, ⟨k2.nxt, fun B hB hn => k2.get B hB (fun hv => hn (k B hv))⟩, fun B hB => ⟨.inl hB, Nat.lt_of_lt_of_le (kl B hB) k2.nxt⟩⟩
  rw [List.set_append_right _ _ (by omega), o, Nat.sub_self, List.set_cons_zero] at k1
  exact k1

/-- The next cell of a table is read. -/
theorem Hold.tabLoad {α : Type} {l : List HP} {sz : Nat} {e : α → List Value} {v c : Value} {rows : List (List α)} {tl : List Value} (h : Hold s0 s l) (hm : HP.tab sz e v rows (c :: tl) ∈ l) :
    addrSlV 1 v (.int .i64 (rows.length : Nat)) = some (elP v rows.length) ∧ loadV s none (elP v rows.length) = some c := by
  obtain ⟨K, ⟨rc, a, o, k, kl, b⟩, _⟩ := h.mem hm
  refine ⟨?_, a.slc.load (by rw [List.getElem?_append_right (by omega), o, Nat.sub_self]; rfl)⟩
  have := a.slc.addr (kk := .i64) (i := ((rows.length : Nat) : Int)) rfl (show rows.length < rows.length + (c :: tl).length by simp)
  rwa [Nat.mul_one] at this

/-- The next cell of a table is a row now. -/
theorem Hold.tabClose {α : Type} {l : List HP} {sz n : Nat} {e : α → List Value} {v c : Value} {rows : List (List α)} {r : List α} {tl : List Value} (h : Hold s0 s (HP.own sz c n (r.flatMap e) :: HP.tab sz e v rows (c :: tl) :: l)) (hn : n = r.length) :
    Hold s0 s (HP.tab sz e v (rows ++ [r]) tl :: l) := by
  subst hn
  obtain ⟨hs, K1, ⟨hc, rfl⟩, h2, K, ⟨rc, a, o, k, kl, b⟩, h4, h5⟩ := h
  have hd : ∀ B, footV c B → ¬ K B := fun B hB hk => (h4 B hk).2 (.inr hB)
  refine ⟨hs, fun B => K B ∨ footV c B, ⟨rc ++ [c], ?_, by simp [o], fun B hB => .inl (k B hB), ?_, ?_⟩, ?_, h5.anti (fun B _ hx => ?_)⟩
  · have e1 : (rows ++ [r]).length + tl.length = rows.length + (c :: tl).length := by simp; omega
    rw [e1, List.append_assoc]; exact a
  · rintro B (hB | hB)
    · exact kl B hB
    · exact hc.slc.foot B hB
  · intro i r' hi
    by_cases h1 : i < rows.length
    · rw [List.getElem?_append_left h1] at hi
      obtain ⟨y, z, w, u⟩ := b i r' hi
      exact ⟨y, by rw [List.getElem?_append_left (by omega)]; exact z, w, fun x hx => ⟨.inl (u x hx).1, (u x hx).2⟩⟩
    · rw [List.getElem?_append_right (by omega)] at hi
      have hi0 : i - rows.length = 0 := by
        rcases Nat.eq_zero_or_pos (i - rows.length) with h0 | h0
        · exact h0
        · rw [List.getElem?_eq_none (by simp; omega)] at hi; cases hi
      rw [hi0] at hi
      simp only [List.getElem?_cons_zero, Option.some.injEq] at hi
      subst hi
      exact ⟨c, by rw [List.getElem?_append_right (by omega), o, hi0]; rfl, hc.slc, fun x hx => ⟨.inr hx, fun hv => hd x hx (k x hv)⟩⟩
  · rintro B (hB | hB)
    · exact ⟨kl B hB, fun hr => (h4 B hB).2 (.inl hr)⟩
    · exact h2 B hB
  · rcases hx with h | h | h
    · exact .inl (.inl h)
    · exact .inr h
    · exact .inl (.inr h)

/-! ## The order of parts; blocks laid later -/

theorem Sep.perm {l l' : List HP} (p : l.Perm l') : ∀ {R : Nat → Prop}, Sep s R l → Sep s R l' := by
  induction p with
  | nil => intro R h; exact h
  | cons P _ ih => rintro R ⟨K, h1, h2, h3⟩; exact ⟨K, h1, h2, ih h3⟩
  | swap P Q l =>
    rintro R ⟨K, h1, h2, K', h3, h4, h5⟩
    exact ⟨K', h3, fun B hB => ⟨(h4 B hB).1, fun hr => (h4 B hB).2 (.inl hr)⟩, K, h1, fun B hB => ⟨(h2 B hB).1, fun hr => hr.elim (h2 B hB).2 (fun hk => (h4 B hk).2 (.inr hB))⟩,
      h5.anti (fun B _ hx => hx.elim (fun a => a.elim (fun b => .inl (.inl b)) .inr) (fun a => .inl (.inr a)))⟩
  | trans _ _ ih1 ih2 => intro R h; exact ih2 (ih1 h)

theorem Hold.perm {l l' : List HP} (h : Hold s0 s l) (p : l.Perm l') : Hold s0 s l' := ⟨h.same, h.sep.perm p⟩

section ups
variable {l : List HP} {a b c d e f : HP}
theorem Hold.up2 (h : Hold s0 s (a :: b :: c :: l)) : Hold s0 s (c :: a :: b :: l) := h.perm (((List.Perm.swap c b l).cons a).trans (List.Perm.swap c a _))
theorem Hold.up3 (h : Hold s0 s (a :: b :: c :: d :: l)) : Hold s0 s (d :: a :: b :: c :: l) := h.perm ((((List.Perm.swap d c l).cons b).cons a).trans (((List.Perm.swap d b _).cons a).trans (List.Perm.swap d a _)))
theorem Hold.down2 (h : Hold s0 s (a :: b :: c :: l)) : Hold s0 s (b :: c :: a :: l) := h.up2.up2
end ups

/-- A block that is there, whatever it holds. -/
def HP.res (B : Nat) : HP where
  p s K := B < s.nxt ∧ K = (· = B)
  loc := by rintro s s' K F ⟨h, rfl⟩ g hd; exact ⟨Nat.lt_of_lt_of_le h g.nxt, rfl⟩

def resL (B : Nat) : Nat → List HP
  | 0 => []
  | c + 1 => HP.res B :: resL (B + 1) c

theorem Hold.reserve {l : List HP} {c : Nat} (h : Hold s0 s l) (hn : s'.nxt = s.nxt + c) (hs : Same s s' (fun _ => False)) : Hold s0 s' (resL s.nxt c ++ l) := by
  refine h.app ⟨hs, ?_⟩
  have key : ∀ (c B : Nat) (R : Nat → Prop), B + c ≤ s'.nxt → (∀ x, R x → x < B) → Sep s' R (resL B c) := by
    intro c
    induction c with
    | zero => intro B R _ _; trivial
    | succ c ih =>
      intro B R hB hR
      exact ⟨(· = B), ⟨by omega, rfl⟩, fun x hx => ⟨by omega, fun hr => by have := hR x hr; omega⟩, ih (B + 1) _ (by omega) (fun x hx => hx.elim (fun a => by have := hR x a; omega) (fun a => by omega))⟩
  exact key c s.nxt _ (by omega) (fun x hx => hx)

/-- A block that was kept is laid. -/
theorem Hold.fill {l : List HP} {B : Nat} (cs : List Value) (h : Hold s0 s (HP.res B :: l)) : Hold s0 (setH s (Store.put s.h B (some (.cells cs false)))) (HP.cell B cs :: l) := by
  refine h.upd ?_
  rintro K ⟨h1, rfl⟩ h2
  exact ⟨(· = B), ⟨by show Store.get (Store.put s.h B _) B = _; rw [Store.get_put, if_pos rfl], h1, rfl⟩, ⟨Nat.le_refl _, fun x _ hx => by show Store.get (Store.put s.h B _) x = _; rw [Store.get_put, if_neg hx]⟩, fun x hx => ⟨.inl hx, (h2 x hx).1⟩⟩

/-- A block is a slice. -/
theorem Hold.cellOwn {l : List HP} {sz n B : Nat} {cs : List Value} (h : Hold s0 s (HP.cell B cs :: l)) (hl : cs.length = n * sz) (hn : n < OPEN) : Hold s0 s (HP.own sz (.slice (some ⟨B, 0, none⟩) n n) n cs :: l) := by
  refine h.upd ?_
  rintro K ⟨h1, h2, rfl⟩ h3
  exact ⟨_, ⟨.cap (rest := []) (by rw [List.append_nil]; exact h1) h2 hl (by simp) (Nat.le_refl _) hn, rfl⟩, .refl _ _, fun x hx => ⟨.inl hx, (h3 x hx).1⟩⟩

/-- A drawn region that lays blocks. -/
theorem W_drawM {X : Ctx} (L : List Nat) {l : List DOper} {fr : Fr} {s : Mm} {Q : AExit → Fr → Mm → Prop} (c : Nat) (hc : countNew l = c) (h : ∀ s' : Mm, s'.h = s.h → s'.nxt = s.nxt + c → Same s s' (fun _ => False) → WD X l 0 fr s' [] [] [] s.nxt [] (KeepK L (Q .normal))) : W X (.draw l) fr s Q :=
  W_draw L c hc (h _ rfl rfl ⟨Nat.le_add_right _ _, fun _ _ _ => rfl⟩)

/-- A row that is filled from its begin on. -/
def fillV {α : Type} (f : α → Value) (z : Value) (row : List α) (g : Nat) : List Value := (row.take g).map f ++ List.replicate (row.length - g) z

theorem fillV_set {α : Type} {f : α → Value} {z : Value} {row : List α} {g : Nat} (hg : g < row.length) : (fillV f z row g).set g (f row[g]) = fillV f z row (g + 1) := by
  unfold fillV
  rw [List.set_append_right _ _ (by rw [List.length_map, List.length_take]; omega), List.length_map, List.length_take, Nat.min_eq_left (by omega), Nat.sub_self]
  obtain ⟨m, hm⟩ : ∃ m, row.length - g = m + 1 := ⟨row.length - g - 1, by omega⟩
  rw [hm, List.replicate_succ, List.set_cons_zero, List.take_add_one, List.map_append, List.append_assoc, show row.length - (g + 1) = m by omega, List.getElem?_eq_getElem hg]
  rfl

theorem fillV_all {α : Type} {f : α → Value} {z : Value} {row : List α} : fillV f z row row.length = row.map f := by unfold fillV; simp
theorem fillV_zero {α : Type} {f : α → Value} {z : Value} {row : List α} : fillV f z row 0 = List.replicate row.length z := by unfold fillV; simp
theorem SlC.inj {sz n : Nat} {v : Value} {cs : List Value} (h : SlC s sz v n cs) {n' : Nat} (e : n = n') : SlC s sz v n' cs := e ▸ h

end Go.Vam

/- Slices that are lent: a part of a slice, opened again to the whole. -/
namespace Go.Vam
open Go

variable {s : Mm}

theorem bounds_0 {len cap h : Nat} {k : IntKind} {j : Int} (hj : j = h) (hh : h ≤ cap) : bounds len cap none (some (.int k j)) none = some (0, h, cap) := by
  rw [bounds_lo0 hj, bounds_lh hh (Nat.zero_le _)]

/-- A slice's begin, opened again to the whole. -/
theorem Own.lent {sz N n : Nat} {v : Value} {cs : List Value} (h : Own s sz v N cs) (hn : n ≤ N) {k : IntKind} {i : Int} (hi : i = N) : slV sz (subS sz v 0 n) none (some (.int k i)) none = some v := by
  cases h with
  | nil =>
    have : n = 0 := by omega
    subst this
    have hO : (0 : Nat) < OPEN := by decide
    simp only [subS, slV, if_pos hO, bounds_lh (Nat.le_refl 0) (Nat.le_refl 0), Option.getD_some]
    rw [bounds_0 hi (Nat.le_refl 0)]
    rfl
  | @opn B N cs hg hB hl hz =>
    have e : subS sz (.slice (some ⟨B, 0, none⟩) N (OPEN + sz)) 0 n = .slice (some ⟨B, 0, none⟩) n (halfC sz N n) := by
      have := slV_half (a := some ⟨B, 0, none⟩) hz (Nat.le_refl N) (bounds_lh (len := N) hn (Nat.zero_le n))
      rw [halfC_self] at this
      rw [subS, this]
      simp only [Option.map_some, add_none', Option.getD_some, Nat.zero_mul, Nat.add_zero, Nat.sub_zero]
    rw [e, slV_half hz hn (bounds_0 hi (Nat.le_refl N))]
    simp only [Option.map_some, add_none', Nat.zero_mul, Nat.add_zero, Nat.sub_zero, halfC_self]
  | @cap B N c cs rest hg hB hl hr hN hc =>
    have e : subS sz (.slice (some ⟨B, 0, none⟩) N c) 0 n = .slice (some ⟨B, 0, none⟩) n c := by
      simp only [subS, slV, if_pos hc, bounds_lh (len := N) (show n ≤ c by omega) (Nat.zero_le n), Option.getD_some]
      split <;> simp [add_none']
    rw [e]
    simp only [slV, if_pos hc]
    rw [bounds_0 hi hN]
    simp only
    split <;> simp [add_none']

section nodraw
variable {X : Ctx} {d : Option Tmp} {l : List DOper} {fr : Fr} {s : Mm} {Q : Fr → Mm → Prop} {i pre nid : Nat} {hist : List Mm} {acts : List Nat} {flt : List (Nat × Nat × ABlk)} {ws : List (Nat × (Mm → Bool))} {t : Tmp} {b : Bool}
end nodraw

/-! ## Parts picked, parts let go -/

theorem Sep.sub {s : Mm} {l l' : List HP} (p : l'.Sublist l) : ∀ {R : Nat → Prop}, Sep s R l → Sep s R l' := by
  induction p with
  | slnil => intro R h; exact h
  | cons P _ ih => rintro R ⟨K, h1, h2, h3⟩; exact ih (h3.anti (fun B _ hB => .inl hB))
  | cons_cons P _ ih => rintro R ⟨K, h1, h2, h3⟩; exact ⟨K, h1, h2, ih h3⟩

theorem Hold.sub {s0 s : Mm} {l l' : List HP} (h : Hold s0 s l) (p : l'.Sublist l) : Hold s0 s l' := ⟨h.same, h.sep.sub p⟩

theorem Hold.pick {s0 s : Mm} {l : List HP} {x : HP} (pre : List HP) (h : Hold s0 s (pre ++ x :: l)) : Hold s0 s (x :: (pre ++ l)) := h.perm List.perm_middle

section ups
variable {s0 s : Mm} {l : List HP} {a b c d e f g h i : HP}
theorem Hold.up5 (H : Hold s0 s (a :: b :: c :: d :: e :: f :: l)) : Hold s0 s (f :: a :: b :: c :: d :: e :: l) := Hold.pick [a, b, c, d, e] H
end ups

/-! ## Calls of function values -/

/-- A call of a value. -/
def FunK (X : Ctx) (f : Value) (args : List Value) (d : Option Tmp) (l : List AOper) (fr : Fr) (s : Mm) (Q : Fr → Mm → Prop) : Prop := match f with
  | .func (.func g) a b => CallK X g (a.toList ++ args ++ b.toList) d l fr s Q
  | _ => False

theorem FunK_f {X : Ctx} {g : FuncId} {a b : Array Value} {args : List Value} {d : Option Tmp} {l : List AOper} {fr : Fr} {s : Mm} {Q : Fr → Mm → Prop} :
    FunK X (.func (.func g) a b) args d l fr s Q = CallK X g (a.toList ++ args ++ b.toList) d l fr s Q := rfl

theorem WO_callT {X : Ctx} {t : Tmp} {xs : List Operand} {d : Option Tmp} {l : List AOper} {fr : Fr} {s : Mm} {Q : Fr → Mm → Prop} (h : FunK X (geT fr t) (xs.map (evO fr)) d l fr s Q) :
    WO X (⟨.call (.tmp t) xs, d, none⟩ :: l) fr s Q := by
  unfold FunK at h
  split at h
  · rename_i g a b hg
    obtain ⟨v, s', ⟨m, hs⟩, n, f', s1, e, q⟩ := h
    refine ⟨max n m, f', s1, ?_, q⟩
    have hcf : ∀ n, stepV (X.cf n) fr s (.call (.tmp t) xs) = X.cf n g (a.toList ++ xs.map (evO fr) ++ b.toList) s := fun n => by
      show (match evO fr (.tmp t) with
        | .func (.func g) a b => X.cf n g (a.toList ++ xs.map (evO fr) ++ b.toList) s
        | _ => none) = _
      rw [evO_tmp, hg]
    simp only [evOps, wantV, if_true, hcf]
    rw [X.cf_mono m (max n m) (Nat.le_max_right n m) _ _ _ _ hs]
    exact evOps_up (Nat.le_max_left n m) e
  · exact h.elim

end Go.Vam

/- The rules of walks, in bundles. -/
namespace Go.Vam
open Go

section
variable {X : Ctx} {fr : Fr} {s : Mm} {d : Option Tmp} {pre : Nat} {l : List DOper} {i : Nat} {hist : List Mm} {acts : List Nat} {flt : List (Nat × Nat × ABlk)} {nid : Nat} {ws : List (Nat × (Mm → Bool))} {Q : Fr → Mm → Prop}
/-- WD_call, not by unfolding: many calls in one region would be unfolded again and again by the kernel. -/
theorem WD_callN {f : FuncId} {xs : List Operand} : WD X (⟨⟨.call (.func f) xs, d, none⟩, pre⟩ :: l) i fr s hist acts flt nid ws Q = DCallK X f (xs.map (evO fr)) (setH s (joinF pre flt s.h).1) d pre l i fr s hist acts flt nid ws Q := by
  apply propext; exact ⟨fun h => h, fun h => h⟩
end

section
variable {X : Ctx} {fr : Fr} {s : Mm} {t : Tmp} {b : Bool} {d : Option Tmp} {pre : Nat} {l : List DOper} {i : Nat} {hist : List Mm} {acts : List Nat} {flt : List (Nat × Nat × ABlk)} {nid : Nat} {ws : List (Nat × (Mm → Bool))} {Q : Fr → Mm → Prop}
end

theorem wO : type_of% (And.intro @WO_nil <| And.intro @WO_move <| And.intro @WO_pick <| And.intro @WO_bin <| And.intro @WO_eq <| And.intro @WO_un <| And.intro @WO_conv <| And.intro @WO_nilCheck <| And.intro @WO_extract <| And.intro @WO_field <| And.intro @WO_fieldAddr <| And.intro @WO_addrArr <| And.intro @WO_addrSl <| And.intro @WO_idxArr <| And.intro @WO_idxStr <| And.intro @WO_slStr <| And.intro @WO_slSl <| And.intro @WO_slArr <| And.intro @WO_build <| And.intro @WO_mkFunc <| And.intro @WO_mkIface <| And.intro @WO_bu <| And.intro @WO_load <| And.intro @WO_text <| And.intro @WO_alloc <| And.intro @WO_box <| And.intro @WO_buildSlice <| And.intro @WO_makeSlice <| And.intro @WO_store <| And.intro @WO_append <| And.intro @WO_copy <| And.intro @WO_strish <| And.intro @WO_ext <| And.intro @WO_call <| And.intro @WO_guard <| And.intro @PureK_some <| And.intro @MemK_some <| And.intro @NewK_some <| And.intro @geT_put <| And.intro @puT_none <| And.intro @frame_nil <| And.intro @frame_cons <| And.intro @evO_tmp <| And.intro @evO_const <| And.intro @want_v <| And.intro @wantB_t <| And.intro @wantB_f <| And.intro @keep_nil <| And.intro @keep_cons <| And.intro @keepK_eq <| And.intro @List.map_cons.{0, 0} <| And.intro @List.map_nil.{0, 0} <| And.intro @Option.map_some.{0, 0} <| And.intro @Option.map_none.{0, 0} <| And.intro @pick_b <| And.intro @nilCheck_p <| And.intro @ext_20 <| And.intro @ext_21 <| And.intro @ext_30 <| And.intro @ext_31 <| And.intro @ext_32 <| And.intro @pack_1 <| And.intro @pack_2 <| And.intro @pack_3 <| And.intro @fieldAddr_p <| And.intro @bin_add <| And.intro @bin_sub <| And.intro @bin_mul <| And.intro @bin_quo <| And.intro @bin_rem <| And.intro @bin_and <| And.intro @bin_or <| And.intro @bin_xor <| And.intro @bin_shl <| And.intro @bin_shr <| And.intro @bin_eql <| And.intro @bin_neq <| And.intro @bin_lss <| And.intro @bin_leq <| And.intro @bin_gtr <| And.intro @bin_geq <| And.intro @binf_add <| And.intro @binf_sub <| And.intro @binf_mul <| And.intro @binf_quo <| And.intro @binf_eql <| And.intro @binf_neq <| And.intro @binf_lss <| And.intro @binf_leq <| And.intro @binf_gtr <| And.intro @binf_geq <| And.intro @bins_eql <| And.intro @bins_neq <| And.intro @un_not <| And.intro @un_neg <| And.intro @unf_neg <| And.intro @conv_int <| And.intro @conv_float <| And.intro @conv_same <| And.intro @bu_lenS <| And.intro @bu_len <| And.intro @bu_real <| And.intro @bu_imag <| And.intro @bu_complex <| And.intro @bu_min <| And.intro @bu_max <| And.intro @ptr_nil <| And.intro @ptr_some <| And.intro @Bool.not_true <| And.intro @Bool.not_false <| And.intro @decide_true <| And.intro @decide_false <| And.intro @Bool.true_and <| And.intro @Bool.and_true <| And.intro @Bool.false_and <| And.intro @Bool.and_false <| And.intro @Bool.or_true <| And.intro @Bool.true_or <| And.intro @Bool.or_false <| And.intro @Bool.false_or <| And.intro @Bool.not_not <| And.intro @eq_self.{1} <| And.intro @Bool.false_eq_true <| And.intro @true_and <| And.intro @and_true <| And.intro @decide_eq_true_eq <| And.intro @blk_new_self <| And.intro @nxt_new <| And.intro @nxt_set <| And.intro @Option.bind_some.{0, 0} <| And.intro @List.getElem?_cons_zero.{0} <| And.intro @List.getElem?_cons_succ.{0} <| And.intro @Nat.zero_add <| And.intro @Nat.add_zero <| And.intro @Nat.zero_mul <| And.intro @Nat.one_mul <| And.intro @Nat.mul_one <| And.intro @List.drop_zero.{0} <| And.intro @List.take_succ_cons.{0} <| And.intro @List.take_zero.{0} <| And.intro @List.length_cons.{0} @List.length_nil.{0}) := And.intro @WO_nil <| And.intro @WO_move <| And.intro @WO_pick <| And.intro @WO_bin <| And.intro @WO_eq <| And.intro @WO_un <| And.intro @WO_conv <| And.intro @WO_nilCheck <| And.intro @WO_extract <| And.intro @WO_field <| And.intro @WO_fieldAddr <| And.intro @WO_addrArr <| And.intro @WO_addrSl <| And.intro @WO_idxArr <| And.intro @WO_idxStr <| And.intro @WO_slStr <| And.intro @WO_slSl <| And.intro @WO_slArr <| And.intro @WO_build <| And.intro @WO_mkFunc <| And.intro @WO_mkIface <| And.intro @WO_bu <| And.intro @WO_load <| And.intro @WO_text <| And.intro @WO_alloc <| And.intro @WO_box <| And.intro @WO_buildSlice <| And.intro @WO_makeSlice <| And.intro @WO_store <| And.intro @WO_append <| And.intro @WO_copy <| And.intro @WO_strish <| And.intro @WO_ext <| And.intro @WO_call <| And.intro @WO_guard <| And.intro @PureK_some <| And.intro @MemK_some <| And.intro @NewK_some <| And.intro @geT_put <| And.intro @puT_none <| And.intro @frame_nil <| And.intro @frame_cons <| And.intro @evO_tmp <| And.intro @evO_const <| And.intro @want_v <| And.intro @wantB_t <| And.intro @wantB_f <| And.intro @keep_nil <| And.intro @keep_cons <| And.intro @keepK_eq <| And.intro @List.map_cons.{0, 0} <| And.intro @List.map_nil.{0, 0} <| And.intro @Option.map_some.{0, 0} <| And.intro @Option.map_none.{0, 0} <| And.intro @pick_b <| And.intro @nilCheck_p <| And.intro @ext_20 <| And.intro @ext_21 <| And.intro @ext_30 <| And.intro @ext_31 <| And.intro @ext_32 <| And.intro @pack_1 <| And.intro @pack_2 <| And.intro @pack_3 <| And.intro @fieldAddr_p <| And.intro @bin_add <| And.intro @bin_sub <| And.intro @bin_mul <| And.intro @bin_quo <| And.intro @bin_rem <| And.intro @bin_and <| And.intro @bin_or <| And.intro @bin_xor <| And.intro @bin_shl <| And.intro @bin_shr <| And.intro @bin_eql <| And.intro @bin_neq <| And.intro @bin_lss <| And.intro @bin_leq <| And.intro @bin_gtr <| And.intro @bin_geq <| And.intro @binf_add <| And.intro @binf_sub <| And.intro @binf_mul <| And.intro @binf_quo <| And.intro @binf_eql <| And.intro @binf_neq <| And.intro @binf_lss <| And.intro @binf_leq <| And.intro @binf_gtr <| And.intro @binf_geq <| And.intro @bins_eql <| And.intro @bins_neq <| And.intro @un_not <| And.intro @un_neg <| And.intro @unf_neg <| And.intro @conv_int <| And.intro @conv_float <| And.intro @conv_same <| And.intro @bu_lenS <| And.intro @bu_len <| And.intro @bu_real <| And.intro @bu_imag <| And.intro @bu_complex <| And.intro @bu_min <| And.intro @bu_max <| And.intro @ptr_nil <| And.intro @ptr_some <| And.intro @Bool.not_true <| And.intro @Bool.not_false <| And.intro @decide_true <| And.intro @decide_false <| And.intro @Bool.true_and <| And.intro @Bool.and_true <| And.intro @Bool.false_and <| And.intro @Bool.and_false <| And.intro @Bool.or_true <| And.intro @Bool.true_or <| And.intro @Bool.or_false <| And.intro @Bool.false_or <| And.intro @Bool.not_not <| And.intro @eq_self.{1} <| And.intro @Bool.false_eq_true <| And.intro @true_and <| And.intro @and_true <| And.intro @decide_eq_true_eq <| And.intro @blk_new_self <| And.intro @nxt_new <| And.intro @nxt_set <| And.intro @Option.bind_some.{0, 0} <| And.intro @List.getElem?_cons_zero.{0} <| And.intro @List.getElem?_cons_succ.{0} <| And.intro @Nat.zero_add <| And.intro @Nat.add_zero <| And.intro @Nat.zero_mul <| And.intro @Nat.one_mul <| And.intro @Nat.mul_one <| And.intro @List.drop_zero.{0} <| And.intro @List.take_succ_cons.{0} <| And.intro @List.take_zero.{0} <| And.intro @List.length_cons.{0} @List.length_nil.{0}
theorem wD : type_of% (And.intro @WD_move <| And.intro @WD_pick <| And.intro @WD_bin <| And.intro @WD_eq <| And.intro @WD_un <| And.intro @WD_conv <| And.intro @WD_nilCheck <| And.intro @WD_extract <| And.intro @WD_field <| And.intro @WD_fieldAddr <| And.intro @WD_addrArr <| And.intro @WD_addrSl <| And.intro @WD_idxArr <| And.intro @WD_idxStr <| And.intro @WD_slStr <| And.intro @WD_slSl <| And.intro @WD_slArr <| And.intro @WD_build <| And.intro @WD_bu <| And.intro @WD_load <| And.intro @WD_text <| And.intro @WD_alloc <| And.intro @WD_box <| And.intro @WD_buildSlice <| And.intro @WD_makeSlice <| And.intro @WD_store <| And.intro @WD_append <| And.intro @WD_copy <| And.intro @WD_ext <| And.intro @WD_callN <| And.intro @WD_nil0 <| And.intro @WD_nil <| And.intro @DPureK_some <| And.intro @DReadK_some <| And.intro @DActK_some <| And.intro @DNewK_some <| And.intro @pastR_nil <| And.intro @pastR_cons <| And.intro @preHead_nil <| And.intro @preHead_cons <| And.intro @joinF_nil <| And.intro @joinF_cons <| And.intro @joinAll_nil <| And.intro @joinAll_cons <| And.intro @setH_self <| And.intro @setH_h <| And.intro @setH_nxt <| And.intro @List.all_nil.{0} <| And.intro @List.all_cons.{0} <| And.intro @List.filter_nil.{0} <| And.intro @List.filter_cons.{0} <| And.intro @sameO_int <| And.intro @sameO_float <| And.intro @sameO_bool <| And.intro @sameO_ptr <| And.intro @sameO_sl <| And.intro @bne_self_eq_false.{0} <| And.intro @geT_put <| And.intro @puT_none <| And.intro @frame_nil <| And.intro @frame_cons <| And.intro @evO_tmp <| And.intro @evO_const <| And.intro @want_v <| And.intro @wantB_t <| And.intro @wantB_f <| And.intro @keep_nil <| And.intro @keep_cons <| And.intro @keepK_eq <| And.intro @List.map_cons.{0, 0} <| And.intro @List.map_nil.{0, 0} <| And.intro @Option.map_some.{0, 0} <| And.intro @Option.map_none.{0, 0} <| And.intro @pick_b <| And.intro @nilCheck_p <| And.intro @ext_20 <| And.intro @ext_21 <| And.intro @ext_30 <| And.intro @ext_31 <| And.intro @ext_32 <| And.intro @pack_1 <| And.intro @pack_2 <| And.intro @pack_3 <| And.intro @fieldAddr_p <| And.intro @bin_add <| And.intro @bin_sub <| And.intro @bin_mul <| And.intro @bin_quo <| And.intro @bin_rem <| And.intro @bin_and <| And.intro @bin_or <| And.intro @bin_xor <| And.intro @bin_shl <| And.intro @bin_shr <| And.intro @bin_eql <| And.intro @bin_neq <| And.intro @bin_lss <| And.intro @bin_leq <| And.intro @bin_gtr <| And.intro @bin_geq <| And.intro @binf_add <| And.intro @binf_sub <| And.intro @binf_mul <| And.intro @binf_quo <| And.intro @binf_eql <| And.intro @binf_neq <| And.intro @binf_lss <| And.intro @binf_leq <| And.intro @binf_gtr <| And.intro @binf_geq <| And.intro @bins_eql <| And.intro @bins_neq <| And.intro @un_not <| And.intro @un_neg <| And.intro @unf_neg <| And.intro @conv_int <| And.intro @conv_float <| And.intro @conv_same <| And.intro @bu_lenS <| And.intro @bu_len <| And.intro @bu_real <| And.intro @bu_imag <| And.intro @bu_complex <| And.intro @bu_min <| And.intro @bu_max <| And.intro @ptr_nil <| And.intro @ptr_some <| And.intro @Bool.not_true <| And.intro @Bool.not_false <| And.intro @decide_true <| And.intro @decide_false <| And.intro @Bool.true_and <| And.intro @Bool.and_true <| And.intro @Bool.false_and <| And.intro @Bool.and_false <| And.intro @Bool.or_true <| And.intro @Bool.true_or <| And.intro @Bool.or_false <| And.intro @Bool.false_or <| And.intro @Bool.not_not <| And.intro @eq_self.{1} <| And.intro @Bool.false_eq_true <| And.intro @true_and <| And.intro @and_true <| And.intro @decide_eq_true_eq <| And.intro @blk_new_self <| And.intro @nxt_new <| And.intro @nxt_set <| And.intro @Option.bind_some.{0, 0} <| And.intro @List.getElem?_cons_zero.{0} <| And.intro @List.getElem?_cons_succ.{0} <| And.intro @Nat.zero_add <| And.intro @Nat.add_zero <| And.intro @Nat.zero_mul <| And.intro @Nat.one_mul <| And.intro @Nat.mul_one <| And.intro @List.drop_zero.{0} <| And.intro @List.take_succ_cons.{0} <| And.intro @List.take_zero.{0} <| And.intro @List.length_cons.{0} @List.length_nil.{0}) := And.intro @WD_move <| And.intro @WD_pick <| And.intro @WD_bin <| And.intro @WD_eq <| And.intro @WD_un <| And.intro @WD_conv <| And.intro @WD_nilCheck <| And.intro @WD_extract <| And.intro @WD_field <| And.intro @WD_fieldAddr <| And.intro @WD_addrArr <| And.intro @WD_addrSl <| And.intro @WD_idxArr <| And.intro @WD_idxStr <| And.intro @WD_slStr <| And.intro @WD_slSl <| And.intro @WD_slArr <| And.intro @WD_build <| And.intro @WD_bu <| And.intro @WD_load <| And.intro @WD_text <| And.intro @WD_alloc <| And.intro @WD_box <| And.intro @WD_buildSlice <| And.intro @WD_makeSlice <| And.intro @WD_store <| And.intro @WD_append <| And.intro @WD_copy <| And.intro @WD_ext <| And.intro @WD_callN <| And.intro @WD_nil0 <| And.intro @WD_nil <| And.intro @DPureK_some <| And.intro @DReadK_some <| And.intro @DActK_some <| And.intro @DNewK_some <| And.intro @pastR_nil <| And.intro @pastR_cons <| And.intro @preHead_nil <| And.intro @preHead_cons <| And.intro @joinF_nil <| And.intro @joinF_cons <| And.intro @joinAll_nil <| And.intro @joinAll_cons <| And.intro @setH_self <| And.intro @setH_h <| And.intro @setH_nxt <| And.intro @List.all_nil.{0} <| And.intro @List.all_cons.{0} <| And.intro @List.filter_nil.{0} <| And.intro @List.filter_cons.{0} <| And.intro @sameO_int <| And.intro @sameO_float <| And.intro @sameO_bool <| And.intro @sameO_ptr <| And.intro @sameO_sl <| And.intro @bne_self_eq_false.{0} <| And.intro @geT_put <| And.intro @puT_none <| And.intro @frame_nil <| And.intro @frame_cons <| And.intro @evO_tmp <| And.intro @evO_const <| And.intro @want_v <| And.intro @wantB_t <| And.intro @wantB_f <| And.intro @keep_nil <| And.intro @keep_cons <| And.intro @keepK_eq <| And.intro @List.map_cons.{0, 0} <| And.intro @List.map_nil.{0, 0} <| And.intro @Option.map_some.{0, 0} <| And.intro @Option.map_none.{0, 0} <| And.intro @pick_b <| And.intro @nilCheck_p <| And.intro @ext_20 <| And.intro @ext_21 <| And.intro @ext_30 <| And.intro @ext_31 <| And.intro @ext_32 <| And.intro @pack_1 <| And.intro @pack_2 <| And.intro @pack_3 <| And.intro @fieldAddr_p <| And.intro @bin_add <| And.intro @bin_sub <| And.intro @bin_mul <| And.intro @bin_quo <| And.intro @bin_rem <| And.intro @bin_and <| And.intro @bin_or <| And.intro @bin_xor <| And.intro @bin_shl <| And.intro @bin_shr <| And.intro @bin_eql <| And.intro @bin_neq <| And.intro @bin_lss <| And.intro @bin_leq <| And.intro @bin_gtr <| And.intro @bin_geq <| And.intro @binf_add <| And.intro @binf_sub <| And.intro @binf_mul <| And.intro @binf_quo <| And.intro @binf_eql <| And.intro @binf_neq <| And.intro @binf_lss <| And.intro @binf_leq <| And.intro @binf_gtr <| And.intro @binf_geq <| And.intro @bins_eql <| And.intro @bins_neq <| And.intro @un_not <| And.intro @un_neg <| And.intro @unf_neg <| And.intro @conv_int <| And.intro @conv_float <| And.intro @conv_same <| And.intro @bu_lenS <| And.intro @bu_len <| And.intro @bu_real <| And.intro @bu_imag <| And.intro @bu_complex <| And.intro @bu_min <| And.intro @bu_max <| And.intro @ptr_nil <| And.intro @ptr_some <| And.intro @Bool.not_true <| And.intro @Bool.not_false <| And.intro @decide_true <| And.intro @decide_false <| And.intro @Bool.true_and <| And.intro @Bool.and_true <| And.intro @Bool.false_and <| And.intro @Bool.and_false <| And.intro @Bool.or_true <| And.intro @Bool.true_or <| And.intro @Bool.or_false <| And.intro @Bool.false_or <| And.intro @Bool.not_not <| And.intro @eq_self.{1} <| And.intro @Bool.false_eq_true <| And.intro @true_and <| And.intro @and_true <| And.intro @decide_eq_true_eq <| And.intro @blk_new_self <| And.intro @nxt_new <| And.intro @nxt_set <| And.intro @Option.bind_some.{0, 0} <| And.intro @List.getElem?_cons_zero.{0} <| And.intro @List.getElem?_cons_succ.{0} <| And.intro @Nat.zero_add <| And.intro @Nat.add_zero <| And.intro @Nat.zero_mul <| And.intro @Nat.one_mul <| And.intro @Nat.mul_one <| And.intro @List.drop_zero.{0} <| And.intro @List.take_succ_cons.{0} <| And.intro @List.take_zero.{0} <| And.intro @List.length_cons.{0} @List.length_nil.{0}

end Go.Vam
