/- Memory that is held in parts which lie apart. -/
import Derived.Test.YtpphomoijlilfaaWpA
namespace Go.Vam
open Go
variable {s s' s0 : Mm}
structure HP where
  p : Mm → (Nat → Prop) → Prop
  loc : ∀ {s s' : Mm} {K F : Nat → Prop}, p s K → Same s s' F → (∀ B, K B → ¬ F B) → p s' K
def Sep (s : Mm) : (Nat → Prop) → List HP → Prop
  | _, [] => True
  | R, P :: l => ∃ K : Nat → Prop, P.p s K ∧ (∀ B, K B → B < s.nxt ∧ ¬ R B) ∧ Sep s (fun B => R B ∨ K B) l
theorem Sep.anti : ∀ {l : List HP} {R R' : Nat → Prop}, Sep s R l → (∀ B, B < s.nxt → R' B → R B) → Sep s R' l := by
  intro l
  induction l with
  | nil => intro R R' _ _; trivial
  | cons P l ih =>
    rintro R R' ⟨K, h1, h2, h3⟩ h
    exact ⟨K, h1, fun B hB => ⟨(h2 B hB).1, fun hr => (h2 B hB).2 (h B (h2 B hB).1 hr)⟩, ih h3 (fun B hB hx => hx.elim (fun a => .inl (h B hB a)) .inr)⟩
theorem Sep.frame : ∀ {l : List HP} {R F : Nat → Prop}, Sep s R l → Same s s' F → (∀ B, F B → R B) → Sep s' R l := by
  intro l
  induction l with
  | nil => intro R F _ _ _; trivial
  | cons P l ih =>
    rintro R F ⟨K, h1, h2, h3⟩ hs h
    exact ⟨K, P.loc h1 hs (fun B hB hF => (h2 B hB).2 (h B hF)), fun B hB => ⟨Nat.lt_of_lt_of_le (h2 B hB).1 hs.nxt, (h2 B hB).2⟩, ih h3 hs (fun B hB => .inl (h B hB))⟩
theorem Sep.mem : ∀ {l : List HP} {R : Nat → Prop} {P : HP}, Sep s R l → P ∈ l → ∃ K, P.p s K ∧ ∀ B, K B → B < s.nxt ∧ ¬ R B := by
  intro l
  induction l with
  | nil => intro R P _ h; simp at h
  | cons Q l ih =>
    rintro R P ⟨K, h1, h2, h3⟩ h
    rcases List.mem_cons.1 h with rfl | h
    · exact ⟨K, h1, h2⟩
    · obtain ⟨K', a, b⟩ := ih h3 h
      exact ⟨K', a, fun B hB => ⟨(b B hB).1, fun hr => (b B hB).2 (.inl hr)⟩⟩
structure Hold (s0 s : Mm) (l : List HP) : Prop where
  same : Same s0 s (fun _ => False)
  sep : Sep s (fun B => B < s0.nxt) l
theorem Hold.mem {l : List HP} {P : HP} (h : Hold s0 s l) (hm : P ∈ l) : ∃ K, P.p s K ∧ ∀ B, K B → B < s.nxt ∧ s0.nxt ≤ B := by
  obtain ⟨K, a, b⟩ := h.sep.mem hm
  exact ⟨K, a, fun B hB => ⟨(b B hB).1, Nat.le_of_not_lt (b B hB).2⟩⟩
theorem Hold.refl (s : Mm) : Hold s s [] := ⟨.refl _ _, trivial⟩
theorem Hold.up1 {l : List HP} {P Q : HP} (h : Hold s0 s (P :: Q :: l)) : Hold s0 s (Q :: P :: l) := by
  obtain ⟨hs, K, h1, h2, K', h3, h4, h5⟩ := h
  exact ⟨hs, K', h3, fun B hB => ⟨(h4 B hB).1, fun hr => (h4 B hB).2 (.inl hr)⟩, K, h1, fun B hB => ⟨(h2 B hB).1, fun hr => hr.elim (h2 B hB).2 (fun hk => (h4 B hk).2 (.inr hB))⟩,
    h5.anti (fun B _ hx => hx.elim (fun a => a.elim (fun b => .inl (.inl b)) .inr) (fun a => .inl (.inr a)))⟩
theorem Hold.tail {l : List HP} {P : HP} (h : Hold s0 s (P :: l)) : Hold s0 s l := by
  obtain ⟨hs, K, h1, h2, h3⟩ := h
  exact ⟨hs, h3.anti (fun B _ hx => .inl hx)⟩
theorem Hold.upd {l : List HP} {P Q : HP} (h : Hold s0 s (P :: l)) (f : ∀ K, P.p s K → (∀ B, K B → B < s.nxt ∧ s0.nxt ≤ B) → ∃ K', Q.p s' K' ∧ Same s s' K ∧ ∀ B, K' B → (K B ∨ s.nxt ≤ B) ∧ B < s'.nxt) : Hold s0 s' (Q :: l) := by
  obtain ⟨hs, K, h1, h2, h3⟩ := h
  obtain ⟨K', g1, g2, g3⟩ := f K h1 (fun B hB => ⟨(h2 B hB).1, Nat.le_of_not_lt (h2 B hB).2⟩)
  refine ⟨hs.trans g2 (fun _ _ h => h) (fun B hB hk => (h2 B hk).2 hB), K', g1, fun B hB => ⟨(g3 B hB).2, fun hr => ?_⟩, ?_⟩
  · rcases (g3 B hB).1 with h | h
    · exact (h2 B h).2 hr
    · exact absurd (Nat.lt_of_lt_of_le hr hs.nxt) (Nat.not_lt.2 h)
  · have h4 : Sep s (fun B => (B < s0.nxt ∨ K B) ∨ s.nxt ≤ B) l := h3.anti (fun B hB hx => hx.elim id (fun h => absurd hB (Nat.not_lt.2 h)))
    refine (h4.frame g2 (fun B hB => .inl (.inr hB))).anti (fun B _ hx => ?_)
    rcases hx with h | h
    · exact .inl (.inl h)
    · rcases (g3 B h).1 with h | h
      · exact .inl (.inr h)
      · exact .inr h
theorem Hold.add {l : List HP} {Q : HP} {K' : Nat → Prop} (h : Hold s0 s l) (hs : Same s s' (fun _ => False)) (hQ : Q.p s' K') (hK : ∀ B, K' B → s.nxt ≤ B ∧ B < s'.nxt) : Hold s0 s' (Q :: l) := by
  have h4 : Sep s (fun B => B < s0.nxt ∨ s.nxt ≤ B) l := h.sep.anti (fun B hB hx => hx.elim id (fun h => absurd hB (Nat.not_lt.2 h)))
  have n0 := h.same.nxt
  refine ⟨h.same.trans hs (fun _ _ h => h) (fun _ _ h => h), K', hQ, fun B hB => ⟨(hK B hB).2, fun hr => by have := (hK B hB).1; omega⟩, (h4.frame hs (fun _ h => h.elim)).anti (fun B _ hx => hx.elim .inl (fun h => .inr (hK B h).1))⟩
theorem Hold.app {l l' : List HP} (h : Hold s0 s l) (g : Hold s s' l') : Hold s0 s' (l' ++ l) := by
  have h4 : Sep s (fun B => B < s0.nxt ∨ s.nxt ≤ B) l := h.sep.anti (fun B hB hx => hx.elim id (fun h => absurd hB (Nat.not_lt.2 h)))
  have h5 := h4.frame g.same (fun _ h => h.elim)
  refine ⟨h.same.trans g.same (fun _ _ h => h) (fun _ _ h => h), ?_⟩
  have n0 := h.same.nxt
  have key : ∀ (l' : List HP) (R : Nat → Prop), Sep s' R l' → (∀ B, B < s.nxt → R B) → ∀ R' : Nat → Prop, (∀ B, R' B → R B ∧ (B < s0.nxt ∨ s.nxt ≤ B)) → Sep s' R' (l' ++ l) := by
    intro l'
    induction l' with
    | nil => intro R _ _ R' h; exact h5.anti (fun B _ hB => (h B hB).2)
    | cons P l' ih =>
      rintro R ⟨K, h1, h2, h3⟩ hR R' h
      refine ⟨K, h1, fun B hB => ⟨(h2 B hB).1, fun hr => (h2 B hB).2 (h B hr).1⟩, ih _ h3 (fun B hB => .inl (hR B hB)) _ (fun B hB => ?_)⟩
      rcases hB with hB | hB
      · exact ⟨.inl (h B hB).1, (h B hB).2⟩
      · exact ⟨.inr hB, .inr (Nat.le_of_not_lt fun hlt => (h2 B hB).2 (hR B hlt))⟩
  exact key l' _ g.sep (fun _ h => h) _ (fun B hB => ⟨Nat.lt_of_lt_of_le hB n0, .inl hB⟩)
theorem Hold.keep {l : List HP} (h : Hold s0 s l) (hs : Same s s' (fun _ => False)) : Hold s0 s' l := h.app (l' := []) ⟨hs, trivial⟩
def HP.own (sz : Nat) (v : Value) (n : Nat) (cs : List Value) : HP where
  p s K := Own s sz v n cs ∧ K = footV v
  loc := by rintro s s' K F ⟨h, rfl⟩ g hd; exact ⟨h.same g hd, rfl⟩
def HP.cell (B : Nat) (cs : List Value) : HP where
  p s K := Store.get s.h B = some (.cells cs false) ∧ B < s.nxt ∧ K = (· = B)
  loc := by rintro s s' K F ⟨h, hb, rfl⟩ g hd; exact ⟨by rw [g.get _ hb (hd B rfl)]; exact h, Nat.lt_of_lt_of_le hb g.nxt, rfl⟩
def HP.tab {α : Type} (sz : Nat) (e : α → List Value) (v : Value) (rows : List (List α)) (tl : List Value) : HP where
  p s K := ∃ rc : List Value, Own s 1 v (rows.length + tl.length) (rc ++ tl) ∧ rc.length = rows.length ∧ (∀ B, footV v B → K B) ∧ (∀ B, K B → B < s.nxt) ∧
    ∀ (i : Nat) (r : List α), rows[i]? = some r → ∃ c, rc[i]? = some c ∧ SlC s sz c r.length (r.flatMap e) ∧ ∀ B, footV c B → K B ∧ ¬ footV v B
  loc := by
    rintro s s' K F ⟨cells, a, o, k, kl, b⟩ g hd
    exact ⟨cells, a.same g (fun x hx => hd x (k x hx)), o, k, fun B hB => Nat.lt_of_lt_of_le (kl B hB) g.nxt, fun i r h => let ⟨x, y, z, w⟩ := b i r h; ⟨x, y, z.same g (fun x hx => hd x (w x hx).1), w⟩⟩
def TabE {α : Type} (s : Mm) (sz : Nat) (e : α → List Value) (v : Value) (rows : List (List α)) : Prop :=
  ∃ cells, SlC s 1 v rows.length cells ∧ ∀ (i : Nat) (r : List α), rows[i]? = some r → ∃ c, cells[i]? = some c ∧ SlC s sz c r.length (r.flatMap e)
theorem TabE.same {α : Type} {sz : Nat} {e : α → List Value} {v : Value} {rows : List (List α)} (h : TabE s sz e v rows) (hs : Same s s' (fun _ => False)) : TabE s' sz e v rows := by
  obtain ⟨c, a, b⟩ := h
  exact ⟨c, a.same hs (fun _ _ h => h), fun i r h => let ⟨x, y, z⟩ := b i r h; ⟨x, y, z.same hs (fun _ _ h => h)⟩⟩
theorem TabE.len {α : Type} {sz : Nat} {e : α → List Value} {v : Value} {rows : List (List α)} (h : TabE s sz e v rows) : buV .len [v] = some (.int .i64 rows.length) := by
  obtain ⟨c, a, b⟩ := h; exact a.len
theorem TabE.row {α : Type} {sz : Nat} {e : α → List Value} {v : Value} {rows : List (List α)} (h : TabE s sz e v rows) {k : Nat} (hk : k < rows.length) :
    ∃ c, addrSlV 1 v (.int .i64 (k : Nat)) = some (elP v k) ∧ loadV s none (elP v k) = some c ∧ SlC s sz c rows[k].length (rows[k].flatMap e) := by
  obtain ⟨c, a, b⟩ := h
  obtain ⟨x, y, z⟩ := b k rows[k] (by simp [hk])
  exact ⟨x, by have := a.addr (kk := .i64) (i := (k : Int)) rfl hk; rwa [Nat.mul_one] at this, a.load y, z⟩
theorem Hold.own {l : List HP} {sz n : Nat} {v : Value} {cs : List Value} (h : Hold s0 s l) (hm : HP.own sz v n cs ∈ l) : Own s sz v n cs := by
  obtain ⟨K, ⟨a, _⟩, _⟩ := h.mem hm; exact a
theorem Hold.cell {l : List HP} {B : Nat} {cs : List Value} (h : Hold s0 s l) (hm : HP.cell B cs ∈ l) : Store.get s.h B = some (.cells cs false) := by
  obtain ⟨K, ⟨a, _⟩, _⟩ := h.mem hm; exact a
theorem Hold.tab {α : Type} {l : List HP} {sz : Nat} {e : α → List Value} {v : Value} {rows : List (List α)} (h : Hold s0 s l) (hm : HP.tab sz e v rows [] ∈ l) : TabE s sz e v rows := by
  obtain ⟨K, ⟨cells, a, o, k, kl, b⟩, _⟩ := h.mem hm
  rw [List.append_nil] at a
  exact ⟨cells, a.slc, fun i r h => let ⟨x, y, z, _⟩ := b i r h; ⟨x, y, z⟩⟩
theorem Hold.new {l : List HP} (cs : List Value) (h : Hold s0 s l) : Hold s0 (newAt s (.cells cs false)) (HP.cell s.nxt cs :: l) :=
  h.add .new (K' := (· = s.nxt)) ⟨by rw [get_new, if_pos rfl], by rw [nxt_new]; omega, rfl⟩ (fun B hB => by rw [nxt_new]; omega)
theorem Hold.setc {l : List HP} {B : Nat} {cs cs' : List Value} (h : Hold s0 s (HP.cell B cs :: l)) : Hold s0 (setBlk s B (.cells cs' false)) (HP.cell B cs' :: l) := by
  refine h.upd ?_
  rintro K ⟨h1, h2, rfl⟩ h3
  exact ⟨(· = B), ⟨by rw [get_set, if_pos rfl], h2, rfl⟩, .set rfl, fun B' hB => ⟨.inl hB, (h3 B' hB).1⟩⟩
theorem Hold.make {l : List HP} {sz c n : Nat} {z : List Value} (h : Hold s0 s l) (hz : z.length = sz) (hn : n ≤ c) (hc : c < OPEN) :
    Hold s0 (newAt s (.cells (repZ z c) false)) (HP.own sz (.slice (some ⟨s.nxt, 0, none⟩) n c) n (repZ z n) :: l) :=
  h.add .new (K' := footV (.slice (some ⟨s.nxt, 0, none⟩) n c)) ⟨own_make hz hn hc, rfl⟩ (fun B hB => by simp only [footV] at hB; rw [nxt_new]; omega)
theorem Hold.nil {l : List HP} (sz : Nat) (h : Hold s0 s l) : Hold s0 s (HP.own sz (.slice none 0 0) 0 [] :: l) :=
  h.add (.refl _ _) (K' := footV (.slice none 0 0)) ⟨.nil, rfl⟩ (fun B hB => hB.elim)
theorem repZ_1 (z : Value) : ∀ n, repZ [z] n = List.replicate n z := by
  intro n
  induction n with
  | zero => rfl
  | succ n ih => simp only [repZ, ih, List.replicate_succ]; rfl
theorem Hold.append {l : List HP} {sz n m bytes : Nat} {v xv : Value} {cs new : List Value} (h : Hold s0 s (HP.own sz v n cs :: l)) (hx : srcCells s sz xv = some (m, new)) (hnew : new.length = m * sz) (hone : new.all oneCell = true)
    (hsz : 0 < sz) (hszO : sz < OPEN) (hb : 0 < bytes) (hb2 : bytes ≤ 1048576) (hsize : (n + m) * bytes ≤ 140737488355328) :
    ∃ v' s', appendV s bytes sz v xv = some (v', s') ∧ Hold s0 s' (HP.own sz v' (n + m) (cs ++ new) :: l) := by
  obtain ⟨v', s', ap, k1, k2, k3⟩ := (h.own (List.mem_cons_self ..)).append hx hnew hone hsz hszO hb hb2 hsize
  refine ⟨v', s', ap, h.upd ?_⟩
  rintro K ⟨_, rfl⟩ _
  exact ⟨footV v', ⟨k1, rfl⟩, k2, fun B hB => ⟨k3 B hB, k1.slc.foot B hB⟩⟩
theorem Hold.store {l : List HP} {sz n k : Nat} {v x : Value} {cs : List Value} (h : Hold s0 s (HP.own sz v n cs :: l)) (hk : k < cs.length) (hx : oneCell x = true) :
    ∃ s', storeV s 1 (elP v k) x = some (undefV, s') ∧ Hold s0 s' (HP.own sz v n (cs.set k x) :: l) := by
  obtain ⟨s', st, k1, k2⟩ := (h.own (List.mem_cons_self ..)).store hk hx
  refine ⟨s', st, h.upd ?_⟩
  rintro K ⟨_, rfl⟩ _
  exact ⟨footV v, ⟨k1, rfl⟩, k2, fun B hB => ⟨.inl hB, k1.slc.foot B hB⟩⟩
theorem Hold.push {l : List HP} {sz n bytes : Nat} {v : Value} {cs new : List Value} (h : Hold s0 s (HP.own sz v n cs :: l)) (hnew : new.length = sz) (hone : new.all oneCell = true)
    (hsz : 0 < sz) (hszO : sz < OPEN) (hb : 0 < bytes) (hb2 : bytes ≤ 1048576) (hsize : (n + 1) * bytes ≤ 140737488355328) :
    ∃ v' s', appendV (newAt s (.cells new false)) bytes sz v (.slice (some ⟨s.nxt, 0, none⟩) 1 1) = some (v', s') ∧ Hold s0 s' (HP.own sz v' (n + 1) (cs ++ new) :: l) := by
  have hsc : SlC (newAt s (.cells new false)) sz (.slice (some ⟨s.nxt, 0, none⟩) 1 1) 1 new :=
    .mk blk_new_self (by rw [nxt_new]; omega) (by simp [← hnew]) (by omega) (.inl ⟨by omega, by unfold OPEN; omega⟩)
  obtain ⟨v', s', ap, g⟩ := (h.new new).up1.append (bytes := bytes) hsc.src (by omega) hone hsz hszO hb hb2 hsize
  exact ⟨v', s', ap, g.up1.tail⟩
theorem Sep.perm {l l' : List HP} (p : l.Perm l') : ∀ {R : Nat → Prop}, Sep s R l → Sep s R l' := by
  induction p with
  | nil => intro R h; exact h
  | cons P _ ih => rintro R ⟨K, h1, h2, h3⟩; exact ⟨K, h1, h2, ih h3⟩
  | swap P Q l =>
    rintro R ⟨K, h1, h2, K', h3, h4, h5⟩
    exact ⟨K', h3, fun B hB => ⟨(h4 B hB).1, fun hr => (h4 B hB).2 (.inl hr)⟩, K, h1, fun B hB => ⟨(h2 B hB).1, fun hr => hr.elim (h2 B hB).2 (fun hk => (h4 B hk).2 (.inr hB))⟩,
      h5.anti (fun B _ hx => hx.elim (fun a => a.elim (fun b => .inl (.inl b)) .inr) (fun a => .inl (.inr a)))⟩
  | trans _ _ ih1 ih2 => intro R h; exact ih2 (ih1 h)
theorem Hold.perm {l l' : List HP} (h : Hold s0 s l) (p : l.Perm l') : Hold s0 s l' := ⟨h.same, h.sep.perm p⟩
section ups
variable {l : List HP} {a b c d e f : HP}
theorem Hold.up2 (h : Hold s0 s (a :: b :: c :: l)) : Hold s0 s (c :: a :: b :: l) := h.perm (((List.Perm.swap c b l).cons a).trans (List.Perm.swap c a _))
theorem Hold.up3 (h : Hold s0 s (a :: b :: c :: d :: l)) : Hold s0 s (d :: a :: b :: c :: l) := h.perm ((((List.Perm.swap d c l).cons b).cons a).trans (((List.Perm.swap d b _).cons a).trans (List.Perm.swap d a _)))
theorem Hold.up4 (h : Hold s0 s (a :: b :: c :: d :: e :: l)) : Hold s0 s (e :: a :: b :: c :: d :: l) :=
  h.perm (((((List.Perm.swap e d l).cons c).cons b).cons a).trans ((((List.Perm.swap e c _).cons b).cons a).trans (((List.Perm.swap e b _).cons a).trans (List.Perm.swap e a _))))
theorem Hold.down2 (h : Hold s0 s (a :: b :: c :: l)) : Hold s0 s (b :: c :: a :: l) := h.up2.up2
end ups
def HP.res (B : Nat) : HP where
  p s K := B < s.nxt ∧ K = (· = B)
  loc := by rintro s s' K F ⟨h, rfl⟩ g hd; exact ⟨Nat.lt_of_lt_of_le h g.nxt, rfl⟩
def resL (B : Nat) : Nat → List HP
  | 0 => []
  | c + 1 => HP.res B :: resL (B + 1) c
theorem Hold.fill {l : List HP} {B : Nat} (cs : List Value) (h : Hold s0 s (HP.res B :: l)) : Hold s0 (setH s (Store.put s.h B (some (.cells cs false)))) (HP.cell B cs :: l) := by
  refine h.upd ?_
  rintro K ⟨h1, rfl⟩ h2
  exact ⟨(· = B), ⟨by show Store.get (Store.put s.h B _) B = _; rw [Store.get_put, if_pos rfl], h1, rfl⟩, ⟨Nat.le_refl _, fun x _ hx => by show Store.get (Store.put s.h B _) x = _; rw [Store.get_put, if_neg hx]⟩, fun x hx => ⟨.inl hx, (h2 x hx).1⟩⟩
theorem Hold.cellOwn {l : List HP} {sz n B : Nat} {cs : List Value} (h : Hold s0 s (HP.cell B cs :: l)) (hl : cs.length = n * sz) (hn : n < OPEN) : Hold s0 s (HP.own sz (.slice (some ⟨B, 0, none⟩) n n) n cs :: l) := by
  refine h.upd ?_
  rintro K ⟨h1, h2, rfl⟩ h3
  exact ⟨_, ⟨.cap (rest := []) (by rw [List.append_nil]; exact h1) h2 hl (by simp) (Nat.le_refl _) hn, rfl⟩, .refl _ _, fun x hx => ⟨.inl hx, (h3 x hx).1⟩⟩
theorem W_drawM {X : Ctx} (L : List Nat) {l : List DOper} {fr : Fr} {s : Mm} {Q : AExit → Fr → Mm → Prop} (c : Nat) (hc : countNew l = c) (h : ∀ s' : Mm, s'.h = s.h → s'.nxt = s.nxt + c → Same s s' (fun _ => False) → WD X l 0 fr s' [] [] [] s.nxt [] (KeepK L (Q .normal))) : W X (.draw l) fr s Q :=
  W_draw L c hc (h _ rfl rfl ⟨Nat.le_add_right _ _, fun _ _ _ => rfl⟩)
theorem setH_new {b : ABlk} (h1 : s'.h = s.h) (h2 : s'.nxt = s.nxt + 1) : setH s' (Store.put s'.h s.nxt (some b)) = newAt s b := by
  cases s'; cases s; simp only at h1 h2; subst h1 h2; rfl
def fillV {α : Type} (f : α → Value) (z : Value) (row : List α) (g : Nat) : List Value := (row.take g).map f ++ List.replicate (row.length - g) z
theorem SlC.inj {sz n : Nat} {v : Value} {cs : List Value} (h : SlC s sz v n cs) {n' : Nat} (e : n = n') : SlC s sz v n' cs := e ▸ h
end Go.Vam

/- What is handed in, with its bulk. -/
namespace Go.Vam
open Go Go.ChangeShapes
structure Bulk {T : Type} (f : DataW T → Nat) : Prop where
  one : ∀ d, 1 ≤ f d
  sl : ∀ ds rest d, d ∈ ds → f d ≤ f (.slice ds rest)
  len : ∀ ds rest, ds.length ≤ f (.slice ds rest)
  agg : ∀ ds d, d ∈ ds → f d ≤ f (.agg ds)
section
variable {P : Program} {T : Type} {s : Mm}
theorem Abs.slW (hs : Lt s) {t e : TypeId} {sz : Nat} (ht : P.underlying t = some (.slice e)) (hsz : P.cellsOf e = sz) (hz : sz < OPEN) {cs : List Value} {d : DataW T} (h : Abs P s t cs d) :
    ∃ (v : Value) (ls : List (List Value)) (ds : List (DataW T)), cs = [v] ∧ SlC s sz v ls.length ls.flatten ∧ ds.length = ls.length ∧ (ds = [] ∨ ∃ rest, d = .slice ds rest) ∧
      (∀ (i : Nat) (l : List Value) (d : DataW T), ls[i]? = some l → ds[i]? = some d → l.length = sz ∧ Abs P s e l d) := by
  have hO : maxLen < OPEN := by decide
  cases h with
  | nil h => exact ⟨_, [], [], rfl, .nil, rfl, .inl rfl, fun i l d hl => by simp at hl⟩
  | @slice _ e' B cap ls ds rest h hg hsz' hlen hcap hel =>
    rw [ht] at h; cases h
    have hlf : ls.flatten.length = ls.length * sz := by
      have : ∀ ls : List (List Value), (∀ l ∈ ls, l.length = P.cellsOf e) → ls.flatten.length = ls.length * sz := by
        intro ls
        induction ls with
        | nil => intro _; simp
        | cons l ls ih => intro h; simp only [List.flatten_cons, List.length_append, List.length_cons, ih (fun x hx => h x (by simp [hx])), h l (by simp), hsz, Nat.add_mul]; omega
      exact this ls hsz'
    refine ⟨_, ls, ds, rfl, .mk (blk_ro hg) (hs _ _ hg) (by rw [List.drop_zero, ← hlf, List.take_length]) (by omega) ?_, hlen, .inr ⟨rest, rfl⟩, fun i l d hl hd => ⟨by rw [← hsz]; exact hsz' l (List.mem_of_getElem? hl), hel i l d hl hd⟩⟩
    · rcases hcap with ⟨h1, h2⟩ | ⟨h1, h2⟩
      · exact .inl ⟨h1, by omega⟩
      · subst h1; exact .inr ⟨hz, 0, Nat.le_refl _, by rw [h2, hsz]; exact halfC_self.symm⟩
  | bool h => rw [ht] at h; cases h
  | int h => rw [ht] at h; cases h
  | float h => rw [ht] at h; cases h
  | string h => rw [ht] at h; cases h
  | struct h => rw [ht] at h; cases h
  | array h => rw [ht] at h; cases h
end
end Go.Vam

/- Slices that are lent: a part of a slice, opened again to the whole. -/
namespace Go.Vam
open Go
variable {s : Mm}
theorem bounds_0 {len cap h : Nat} {k : IntKind} {j : Int} (hj : j = h) (hh : h ≤ cap) : bounds len cap none (some (.int k j)) none = some (0, h, cap) := by
  rw [bounds_lo0 hj, bounds_lh hh (Nat.zero_le _)]
theorem Own.lent {sz N n : Nat} {v : Value} {cs : List Value} (h : Own s sz v N cs) (hn : n ≤ N) {k : IntKind} {i : Int} (hi : i = N) : slV sz (subS sz v 0 n) none (some (.int k i)) none = some v := by
  cases h with
  | nil =>
    have : n = 0 := by omega
    subst this
    have hO : (0 : Nat) < OPEN := by decide
    simp only [subS, slV, if_pos hO, bounds_lh (Nat.le_refl 0) (Nat.le_refl 0), Option.getD_some]
    rw [bounds_0 hi (Nat.le_refl 0)]
    rfl
  | @opn B N cs hg hB hl hz =>
    have e : subS sz (.slice (some ⟨B, 0, none⟩) N (OPEN + sz)) 0 n = .slice (some ⟨B, 0, none⟩) n (halfC sz N n) := by
      have := slV_half (a := some ⟨B, 0, none⟩) hz (Nat.le_refl N) (bounds_lh (len := N) hn (Nat.zero_le n))
      rw [halfC_self] at this
      rw [subS, this]
      simp only [Option.map_some, add_none', Option.getD_some, Nat.zero_mul, Nat.add_zero, Nat.sub_zero]
    rw [e, slV_half hz hn (bounds_0 hi (Nat.le_refl N))]
    simp only [Option.map_some, add_none', Nat.zero_mul, Nat.add_zero, Nat.sub_zero, halfC_self]
  | @cap B N c cs rest hg hB hl hr hN hc =>
    have e : subS sz (.slice (some ⟨B, 0, none⟩) N c) 0 n = .slice (some ⟨B, 0, none⟩) n c := by
      simp only [subS, slV, if_pos hc, bounds_lh (len := N) (show n ≤ c by omega) (Nat.zero_le n), Option.getD_some]
      split <;> simp [add_none']
    rw [e]
    simp only [slV, if_pos hc]
    rw [bounds_0 hi hN]
    simp only
    split <;> simp [add_none']
theorem SlC.fld {s : Mm} {sz n : Nat} {v : Value} {cs : List Value} (h : SlC s sz v n cs) (hn : 0 < n) (k o : Nat) : fieldAddrV o (elP v k) = some (elP v (k + o)) := by
  cases h with
  | nil => omega
  | mk h hB hc ho hcap => simp only [elP, fieldAddrV, add_none', Nat.add_assoc]
section nodraw
variable {X : Ctx} {d : Option Tmp} {l : List DOper} {fr : Fr} {s : Mm} {Q : Fr → Mm → Prop} {i pre nid : Nat} {hist : List Mm} {acts : List Nat} {flt : List (Nat × Nat × ABlk)} {ws : List (Nat × (Mm → Bool))} {t : Tmp} {b : Bool}
theorem WD_no_move {x : Operand} (h : wantV fr (some (t, b)) = false) : WD X (⟨⟨.move x, d, some (t, b)⟩, pre⟩ :: l) i fr s hist acts flt nid ws Q = WD X l (i + 1) (puT fr d undefV) s hist acts flt nid ws Q := WD_no (.inl rfl) h
theorem WD_no_bin {o : BinOp} {x y : Operand} (h : wantV fr (some (t, b)) = false) : WD X (⟨⟨.bin o x y, d, some (t, b)⟩, pre⟩ :: l) i fr s hist acts flt nid ws Q = WD X l (i + 1) (puT fr d undefV) s hist acts flt nid ws Q := WD_no (.inl rfl) h
theorem WD_no_un {o : UnOp} {x : Operand} (h : wantV fr (some (t, b)) = false) : WD X (⟨⟨.un o x, d, some (t, b)⟩, pre⟩ :: l) i fr s hist acts flt nid ws Q = WD X l (i + 1) (puT fr d undefV) s hist acts flt nid ws Q := WD_no (.inl rfl) h
theorem WD_no_fieldAddr {off : Nat} {x : Operand} (h : wantV fr (some (t, b)) = false) : WD X (⟨⟨.fieldAddr off x, d, some (t, b)⟩, pre⟩ :: l) i fr s hist acts flt nid ws Q = WD X l (i + 1) (puT fr d undefV) s hist acts flt nid ws Q := WD_no (.inl rfl) h
theorem WD_no_addrSl {sz : Nat} {x j : Operand} (h : wantV fr (some (t, b)) = false) : WD X (⟨⟨.addrSl sz x j, d, some (t, b)⟩, pre⟩ :: l) i fr s hist acts flt nid ws Q = WD X l (i + 1) (puT fr d undefV) s hist acts flt nid ws Q := WD_no (.inl rfl) h
theorem WD_no_load {n : Option Nat} {a : Operand} (h : wantV fr (some (t, b)) = false) : WD X (⟨⟨.load n a, d, some (t, b)⟩, pre⟩ :: l) i fr s hist acts flt nid ws Q = WD X l (i + 1) (puT fr d undefV) s hist acts flt nid ws Q := WD_no (.inr rfl) h
end nodraw
theorem Sep.sub {s : Mm} {l l' : List HP} (p : l'.Sublist l) : ∀ {R : Nat → Prop}, Sep s R l → Sep s R l' := by
  induction p with
  | slnil => intro R h; exact h
  | cons P _ ih => rintro R ⟨K, h1, h2, h3⟩; exact ih (h3.anti (fun B _ hB => .inl hB))
  | cons_cons P _ ih => rintro R ⟨K, h1, h2, h3⟩; exact ⟨K, h1, h2, ih h3⟩
theorem Hold.sub {s0 s : Mm} {l l' : List HP} (h : Hold s0 s l) (p : l'.Sublist l) : Hold s0 s l' := ⟨h.same, h.sep.sub p⟩
theorem Hold.pick {s0 s : Mm} {l : List HP} {x : HP} (pre : List HP) (h : Hold s0 s (pre ++ x :: l)) : Hold s0 s (x :: (pre ++ l)) := h.perm List.perm_middle
section ups
variable {s0 s : Mm} {l : List HP} {a b c d e f g h i : HP}
theorem Hold.up5 (H : Hold s0 s (a :: b :: c :: d :: e :: f :: l)) : Hold s0 s (f :: a :: b :: c :: d :: e :: l) := Hold.pick [a, b, c, d, e] H
theorem Hold.up6 (H : Hold s0 s (a :: b :: c :: d :: e :: f :: g :: l)) : Hold s0 s (g :: a :: b :: c :: d :: e :: f :: l) := Hold.pick [a, b, c, d, e, f] H
end ups
def FunK (X : Ctx) (f : Value) (args : List Value) (d : Option Tmp) (l : List AOper) (fr : Fr) (s : Mm) (Q : Fr → Mm → Prop) : Prop := match f with
  | .func (.func g) a b => CallK X g (a.toList ++ args ++ b.toList) d l fr s Q
  | _ => False
theorem FunK_f {X : Ctx} {g : FuncId} {a b : Array Value} {args : List Value} {d : Option Tmp} {l : List AOper} {fr : Fr} {s : Mm} {Q : Fr → Mm → Prop} :
    FunK X (.func (.func g) a b) args d l fr s Q = CallK X g (a.toList ++ args ++ b.toList) d l fr s Q := rfl
theorem WO_callT {X : Ctx} {t : Tmp} {xs : List Operand} {d : Option Tmp} {l : List AOper} {fr : Fr} {s : Mm} {Q : Fr → Mm → Prop} (h : FunK X (geT fr t) (xs.map (evO fr)) d l fr s Q) :
    WO X (⟨.call (.tmp t) xs, d, none⟩ :: l) fr s Q := by
  unfold FunK at h
  split at h
  · rename_i g a b hg
    obtain ⟨v, s', ⟨m, hs⟩, n, f', s1, e, q⟩ := h
    refine ⟨max n m, f', s1, ?_, q⟩
    have hcf : ∀ n, stepV (X.cf n) fr s (.call (.tmp t) xs) = X.cf n g (a.toList ++ xs.map (evO fr) ++ b.toList) s := fun n => by
      show (match evO fr (.tmp t) with
        | .func (.func g) a b => X.cf n g (a.toList ++ xs.map (evO fr) ++ b.toList) s
        | _ => none) = _
      rw [qaf, hg]
    simp only [evOps, wantV, if_true, hcf]
    rw [X.cf_mono m (max n m) (Nat.le_max_right n m) _ _ _ _ hs]
    exact evOps_up (Nat.le_max_left n m) e
  · exact h.elim
end Go.Vam
