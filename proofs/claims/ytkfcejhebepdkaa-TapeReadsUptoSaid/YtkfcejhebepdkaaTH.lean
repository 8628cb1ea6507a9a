/- The readers' law: a piece. -/
import Derived.Test.YtkfcejhebepdkaaTG
import Derived.Test.YtkfcejhebepdkaaTE
namespace Go.Proofs.Ytkfcejhebepdkaa
open Go Go.Vam

theorem i16of_rng {n : Nat} (h : n < 65536) : -32768 ≤ i16of n ∧ i16of n ≤ 32767 := by
  unfold i16of; split <;> omega

theorem decA_rng {b : List UInt8} {C o : Nat} (hb : 27 + 4 * C ≤ b.length) (ho : o ≤ 2) : ∀ x ∈ decA b C o, -32768 ≤ x ∧ x ≤ 32767 := by
  intro x hx
  simp only [decA, List.mem_map, List.mem_range] at hx
  obtain ⟨c, hc, rfl⟩ := hx
  exact i16of_rng (getF_16 rfl (by omega))

theorem chunk_mem {R G : Nat} {l : List Int} {r : List Int} (h : r ∈ chunk R G l) : r.length ≤ G ∧ ∀ x ∈ r, x ∈ l := by
  simp only [chunk, List.mem_map] at h
  obtain ⟨p, _, rfl⟩ := h
  exact ⟨by rw [List.length_take]; omega, fun x hx => List.mem_of_mem_drop (List.mem_of_mem_take hx)⟩

theorem fok_of {b : List UInt8} {n : Nat} (h : fstF b = .got n) : FOk (frOf b) := by
  obtain ⟨f1, f2, f2', f3, f4, f5, _⟩ := fst_got h
  obtain ⟨l1, l2, _⟩ := large_spec f4
  have hC : 27 + 4 * (rowsN b * colN b) ≤ b.length := by omega
  refine ⟨getF_lt _ 0 (by omega), getF_lt _ 0 (by omega), fun r hr x hx => decA_rng hC (by omega) x ((chunk_mem hr).2 x hx), fun r hr x hx => decA_rng hC (by omega) x ((chunk_mem hr).2 x hx), ?_, ?_, fun r hr => ?_, fun r hr => ?_⟩
  · show (chunk _ _ _).length ≤ _; rw [chunk_length]; omega
  · show (chunk _ _ _).length ≤ _; rw [chunk_length]; omega
  · have := (chunk_mem hr).1; omega
  · have := (chunk_mem hr).1; omega

theorem fok_feed : ∀ (k : Nat) (b : List UInt8), ∀ f ∈ (feedF k b).1, FOk f := by
  intro k
  induction k with
  | zero => intro b f h; simp [feedF] at h
  | succ k ih =>
    intro b f h
    unfold feedF at h
    split at h
    · simp at h
    · simp at h
    · rename_i n hn
      simp only [List.mem_cons] at h
      rcases h with rfl | h
      · exact fok_of hn
      · exact ih _ _ h

theorem step_fok {st : Option (List UInt8)} {b : List UInt8} : ∀ f ∈ (stepF st b).1, FOk f := by
  cases st with
  | none => intro f h; simp [stepF] at h
  | some w => exact fok_feed _ _

def cN (c : Bool) : Nat := if c then 1 else 0


theorem run3_who {X : Ctx} (hX : X.fns = fnsOf Try.prog) (ho : ∀ f args, f ≠ 9 → X.orc f args = none) {s : Mm} {fr : Fr} {v0 v1 v5 v6 : Value} {ws : List Bool} {k : Nat} (hw : SlC s 1 v1 ws.length (ws.map .bool)) (hk : k < 9223372036854775807) (e0 : geT fr 0 = v0) (e1 : geT fr 1 = v1) (e5 : geT fr 5 = v5) (e6 : geT fr 6 = v6) (e7 : geT fr 7 = .int .i64 (k : Nat)) (e8 : geT fr 8 = .int .i64 0)
    {Q : AExit → Fr → Mm → Prop} (hQ : ∀ fr' c, geT fr' 0 = v0 → geT fr' 1 = v1 → geT fr' 5 = v5 → geT fr' 6 = v6 → geT fr' 7 = .int .i64 (k : Nat) → geT fr' 8 = .int .i64 (cN c : Nat) → Q .normal fr' s) :
    W X (.seq (.ops o3_11) (.cond (.tmp 53) (.ops o3_12) .skip)) fr s Q := by
  by_cases h : k < ws.length
  · have h' : (k : Int) < ((ws.length : Nat) : Int) := by omega
    have hl := hw.load (j := k) (c := .bool ws[k]) (by simp [h])
    refine W_seq (W_ops [0, 1, 5, 6, 7, 8, 53] ?_)
    simp only [o3_11, WO_addrSl, WO_bin, WO_bu, WO_load, WO_move, WO_pick, pick_b, bin_lss, WO_nil, PureK_some, WO_guard, want_v, wantB_t, geT_put, evO_tmp, evO_const, keep_nil, keep_cons, keepK_eq, List.map_cons, List.map_nil, Nat.reduceEqDiff, ↓reduceIte, decide_true, eq_self, Nat.mul_one, e0, e1, e5, e6, e7, e8, hw.len, h', hw.addr (kk := .i64) (i := (k : Int)) rfl h, hl]
    clear e0 e1 e5 e6 e7 e8
    intro fr e0 e1 e5 e6 e7 e8 e53
    refine SeqK_n ?_
    cases hc : ws[k] with
    | true =>
      rw [hc] at e53
      refine W_cond e53 (fun _ => ?_) (fun h => by cases h)
      refine W_ops [0, 1, 5, 6, 7, 8] ?_
      simp only [o3_12, WO_move, WO_nil, geT_put, evO_const, keep_nil, keep_cons, keepK_eq, Nat.reduceEqDiff, ↓reduceIte, eq_self, e0, e1, e5, e6, e7]
      clear e0 e1 e5 e6 e7 e8 e53
      intro fr e0 e1 e5 e6 e7 e8
      exact hQ _ true e0 e1 e5 e6 e7 e8
    | false =>
      rw [hc] at e53
      refine W_cond e53 (fun h => by cases h) (fun _ => W_skip ?_)
      exact hQ _ false e0 e1 e5 e6 e7 e8
  · have h' : ¬ (k : Int) < ((ws.length : Nat) : Int) := by omega
    refine W_seq (W_ops [0, 1, 5, 6, 7, 8, 53] ?_)
    simp only [o3_11, WO_bin, WO_bu, WO_move, WO_pick, pick_b, bin_lss, WO_nil, PureK_some, WO_guard, want_v, wantB_t, geT_put, evO_tmp, evO_const, keep_nil, keep_cons, keepK_eq, List.map_cons, List.map_nil, Nat.reduceEqDiff, ↓reduceIte, decide_false, eq_self, Bool.false_eq_true, e0, e1, e5, e6, e7, e8, hw.len, h']
    clear e0 e1 e5 e6 e7 e8
    intro fr e0 e1 e5 e6 e7 e8 e53
    refine SeqK_n ?_
    refine W_cond e53 (fun h => by cases h) (fun _ => W_skip ?_)
    exact hQ _ false e0 e1 e5 e6 e7 e8

/-- The copy that is handed in. -/
theorem run3_copy {X : Ctx} (hX : X.fns = fnsOf Try.prog) (ho : ∀ f args, f ≠ 9 → X.orc f args = none) {s : Mm} {fr : Fr} {v0 v1 v5 v6 v8 : Value} {bs : List (List UInt8)} {K : Nat → Prop} {k : Nat} (h : BsT s v0 bs K) (hk : k < bs.length) (hn : bs[k].length ≤ 1048576) (e0 : geT fr 0 = v0) (e1 : geT fr 1 = v1) (e5 : geT fr 5 = v5) (e6 : geT fr 6 = v6) (e7 : geT fr 7 = .int .i64 (k : Nat)) (e8 : geT fr 8 = v8)
    {Q : AExit → Fr → Mm → Prop} (hQ : ∀ fr' s' v9, geT fr' 0 = v0 → geT fr' 1 = v1 → geT fr' 5 = v5 → geT fr' 6 = v6 → geT fr' 7 = .int .i64 (k : Nat) → geT fr' 8 = v8 → geT fr' 9 = v9 → Own s' 1 v9 bs[k].length (bsV bs[k]) → Same s s' (fun _ => False) → (∀ x, footV v9 x → s.nxt ≤ x) → Q .normal fr' s') :
    W X (.ops o3_13) fr s Q := by
  obtain ⟨cells, hc, _, hrow⟩ := h
  obtain ⟨c, hc1, hc2, _⟩ := hrow k bs[k] (by simp [hk])
  have hb : buildSlV s 1 [.int .u8 0] 0 [] = some (.slice (some ⟨s.nxt, 0, none⟩) 0 0, .cells [] false) := rfl
  have hs1 : Same s (newAt s (.cells [] false)) (fun _ => False) := .new
  have ow : Own (newAt s (.cells [] false)) 1 (.slice (some ⟨s.nxt, 0, none⟩) 0 0) 0 [] := .cap (rest := []) (by rw [get_new, if_pos rfl]; rfl) (by rw [nxt_new]; omega) rfl rfl (Nat.le_refl _) (by decide)
  have hc3 : Bs (newAt s (.cells [] false)) c bs[k] := SlC.same hc2 hs1 (fun _ _ h => h)
  have hc4 := hc.same hs1 (fun _ _ h => h)
  obtain ⟨v9, s', ap, o9, hs2, hf⟩ := ow.append (bytes := 1) (SlC.src hc3) (by rw [bsV_length]; omega) (bsV_one _) (by omega) (by omega) (by omega) (by omega)
  rw [Nat.zero_add, List.nil_append] at o9
  refine W_ops [0, 1, 5, 6, 7, 8, 9] ?_
  simp only [o3_13, WO_addrSl, WO_append, WO_buildSlice, WO_load, WO_move, WO_nil, PureK_some, MemK_some, NewK_some, geT_put, evO_tmp, keep_nil, keep_cons, keepK_eq, List.map_nil, Nat.reduceEqDiff, ↓reduceIte, eq_self, Nat.mul_one, e0, e1, e5, e6, e7, e8, hb, hc4.addr (kk := .i64) (i := (k : Int)) rfl hk, hc4.load (j := k) hc1, ap]
  clear e0 e1 e5 e6 e7 e8
  intro fr e0 e1 e5 e6 e7 e8 e9
  refine hQ _ _ v9 e0 e1 e5 e6 e7 e8 e9 o9 (hs1.trans hs2 (fun _ _ h => h) (fun x hx h => by simp only [footV] at h; omega)) (fun x hx => ?_)
  rcases hf x hx with h | h
  · simp only [footV] at h; omega
  · rw [nxt_new] at h; omega

end Go.Proofs.Ytkfcejhebepdkaa

/- The readers' law: a piece is told to both. -/
namespace Go.Proofs.Ytkfcejhebepdkaa
open Go Go.Vam

def rdP (n : Nat) : Value := .pointer (some ⟨n, 0, none⟩)

/-- What stands between two pieces: two readers of each kind. -/
structure Inv (n0 : Nat) (s : Mm) (P Q : Nat) (R S : Bool → Nat) (st : Bool → Option (List UInt8)) (F G : Bool → Nat → Prop) (lim : Nat) : Prop where
  p : Store.get s.h P = some (.cells [rdP (R false), rdP (R true)] false)
  q : Store.get s.h Q = some (.cells [rdP (S false), rdP (S true)] false)
  hP : n0 ≤ P ∧ P < s.nxt
  hQ : n0 ≤ Q ∧ Q < s.nxt
  rd : ∀ c, Rd s (R c) (st c) (F c)
  gd : ∀ c, Rd s (S c) (st c) (G c)
  dF : ∀ c d x, c ≠ d → F c x → ¬ F d x
  dG : ∀ c d x, c ≠ d → G c x → ¬ G d x
  dFG : ∀ c d x, F c x → ¬ G d x
  nF : ∀ c x, F c x → n0 ≤ x ∧ x ≠ P ∧ x ≠ Q
  nG : ∀ c x, G c x → n0 ≤ x ∧ x ≠ P ∧ x ≠ Q
  held : ∀ c, heldF (st c) ≤ lim

/-- Other places are turned. -/
theorem Inv.same {n0 lim : Nat} {s s' : Mm} {P Q : Nat} {R S : Bool → Nat} {st : Bool → Option (List UInt8)} {F G : Bool → Nat → Prop} {H : Nat → Prop} (h : Inv n0 s P Q R S st F G lim) (g : Same s s' H) (h1 : ¬ H P) (h2 : ¬ H Q) (h3 : ∀ c x, F c x → ¬ H x) (h4 : ∀ c x, G c x → ¬ H x) : Inv n0 s' P Q R S st F G lim := by
  have := g.nxt
  exact ⟨by rw [g.get P h.hP.2 h1]; exact h.p, by rw [g.get Q h.hQ.2 h2]; exact h.q, ⟨h.hP.1, by have := h.hP.2; omega⟩, ⟨h.hQ.1, by have := h.hQ.2; omega⟩, fun c => (h.rd c).same g (h3 c), fun c => (h.gd c).same g (h4 c), h.dF, h.dG, h.dFG, h.nF, h.nG, h.held⟩

def upd {α : Type} (f : Bool → α) (c : Bool) (a : α) : Bool → α := fun d => if d = c then a else f d

theorem upd_self {α : Type} {f : Bool → α} {c : Bool} {a : α} : upd f c a c = a := if_pos rfl
theorem upd_ne {α : Type} {f : Bool → α} {c d : Bool} {a : α} (h : d ≠ c) : upd f c a d = f d := if_neg h

/-- Both readers were told: their new blocks. -/
theorem Inv.step {n0 lim m : Nat} {s s3 s4 : Mm} {P Q : Nat} {R S : Bool → Nat} {st : Bool → Option (List UInt8)} {F G : Bool → Nat → Prop} {c : Bool} {st' : Option (List UInt8)} {F' G' : Nat → Prop} (h : Inv n0 s P Q R S st F G lim)
    (g1 : Same s s3 (F c)) (r1 : Rd s3 (R c) st' F') (k1 : ∀ x, F' x → F c x ∨ s.nxt ≤ x) (g2 : Same s3 s4 (G c)) (r2 : Rd s4 (S c) st' G') (k2 : ∀ x, G' x → G c x ∨ s3.nxt ≤ x) (hl : heldF st' ≤ lim + m) :
    Inv n0 s4 P Q R S (upd st c st') (upd F c F') (upd G c G') (lim + m) := by
  have n1 := g1.nxt
  have n2 := g2.nxt
  have hp := h.hP
  have hq := h.hQ
  have Flt : ∀ d x, F d x → x < s.nxt := fun d => (h.rd d).lt
  have Glt : ∀ d x, G d x → x < s.nxt := fun d => (h.gd d).lt
  have F3 : ∀ x, F' x → x < s3.nxt := r1.lt
  have F'G : ∀ d x, F' x → ¬ G d x := fun d x hx hy => by
    rcases k1 x hx with e | e
    · exact h.dFG c d x e hy
    · have := Glt d x hy; omega
  have f12 := g1.trans g2 (G := fun x => F c x ∨ G c x) (fun _ _ h => .inl h) (fun _ _ h => .inr h)
  refine ⟨by rw [f12.get P hp.2 (fun e => by rcases e with e | e; exact (h.nF c P e).2.1 rfl; exact (h.nG c P e).2.1 rfl)]; exact h.p, by rw [f12.get Q hq.2 (fun e => by rcases e with e | e; exact (h.nF c Q e).2.2 rfl; exact (h.nG c Q e).2.2 rfl)]; exact h.q, ⟨hp.1, by omega⟩, ⟨hq.1, by omega⟩, fun d => ?_, fun d => ?_, fun a b x hab hx hy => ?_, fun a b x hab hx hy => ?_, fun a b x hx hy => ?_, fun d x hx => ?_, fun d x hx => ?_, fun d => ?_⟩
  · by_cases e : d = c
    · subst e; simp only [upd_self]; exact r1.same g2 (F'G d)
    · simp only [upd_ne e]
      exact ((h.rd d).same g1 (h.dF d c · e)).same g2 (h.dFG d c)
  · by_cases e : d = c
    · subst e; simp only [upd_self]; exact r2
    · simp only [upd_ne e]
      exact ((h.gd d).same g1 (fun x hx hy => h.dFG c d x hy hx)).same g2 (h.dG d c · e)
  · by_cases ea : a = c
    · subst ea
      have eb : b ≠ a := fun e => hab e.symm
      simp only [upd_self, upd_ne eb] at hx hy
      rcases k1 x hx with e | e
      · exact h.dF a b x hab e hy
      · have := Flt b x hy; omega
    · by_cases eb : b = c
      · subst eb
        simp only [upd_self, upd_ne ea] at hx hy
        rcases k1 x hy with e | e
        · exact h.dF a b x hab hx e
        · have := Flt a x hx; omega
      · simp only [upd_ne ea, upd_ne eb] at hx hy
        exact h.dF a b x hab hx hy
  · by_cases ea : a = c
    · subst ea
      have eb : b ≠ a := fun e => hab e.symm
      simp only [upd_self, upd_ne eb] at hx hy
      rcases k2 x hx with e | e
      · exact h.dG a b x hab e hy
      · have := Glt b x hy; omega
    · by_cases eb : b = c
      · subst eb
        simp only [upd_self, upd_ne ea] at hx hy
        rcases k2 x hy with e | e
        · exact h.dG a b x hab hx e
        · have := Glt a x hx; omega
      · simp only [upd_ne ea, upd_ne eb] at hx hy
        exact h.dG a b x hab hx hy
  · have hx' : (F a x) ∨ (F' x) := by
      by_cases ea : a = c
      · subst ea; simp only [upd_self] at hx; exact .inr hx
      · simp only [upd_ne ea] at hx; exact .inl hx
    have hy' : (G b x) ∨ (G' x) := by
      by_cases eb : b = c
      · subst eb; simp only [upd_self] at hy; exact .inr hy
      · simp only [upd_ne eb] at hy; exact .inl hy
    rcases hx' with u | u <;> rcases hy' with v | v
    · exact h.dFG a b x u v
    · rcases k2 x v with e | e
      · exact h.dFG a c x u e
      · have := Flt a x u; omega
    · exact F'G b x u v
    · rcases k2 x v with e | e
      · exact F'G c x u e
      · have := F3 x u; omega
  · by_cases e : d = c
    · subst e; simp only [upd_self] at hx
      rcases k1 x hx with e | e
      · exact h.nF d x e
      · exact ⟨by omega, by omega, by omega⟩
    · simp only [upd_ne e] at hx; exact h.nF d x hx
  · by_cases e : d = c
    · subst e; simp only [upd_self] at hx
      rcases k2 x hx with e | e
      · exact h.nG d x e
      · exact ⟨by omega, by omega, by omega⟩
    · simp only [upd_ne e] at hx; exact h.nG d x hx
  · by_cases e : d = c
    · subst e; simp only [upd_self]; exact hl
    · simp only [upd_ne e]; have := h.held d; omega

theorem sl2 {s : Mm} {P : Nat} {a b : Value} (h : Store.get s.h P = some (.cells [a, b] false)) (hP : P < s.nxt) : SlC s 1 (.slice (some ⟨P, 0, none⟩) 2 2) 2 [a, b] := .mk (blk_cells h) hP rfl (by simp) (.inl ⟨Nat.le_refl _, by decide⟩)


/-- What is held is the same. -/
theorem run3_held {X : Ctx} (hX : X.fns = fnsOf Try.prog) (ho : ∀ f args, f ≠ 9 → X.orc f args = none) {n0 lim : Nat} {s : Mm} {P Q : Nat} {R S : Bool → Nat} {st : Bool → Option (List UInt8)} {F G : Bool → Nat → Prop} (h : Inv n0 s P Q R S st F G lim) {fr : Fr} {v0 v1 v7 : Value}
    (e0 : geT fr 0 = v0) (e1 : geT fr 1 = v1) (e5 : geT fr 5 = .slice (some ⟨P, 0, none⟩) 2 2) (e6 : geT fr 6 = .slice (some ⟨Q, 0, none⟩) 2 2) (e7 : geT fr 7 = v7) {Z : AExit → Fr → Mm → Prop}
    (hZ : ∀ fr', geT fr' 0 = v0 → geT fr' 1 = v1 → geT fr' 5 = .slice (some ⟨P, 0, none⟩) 2 2 → geT fr' 6 = .slice (some ⟨Q, 0, none⟩) 2 2 → geT fr' 7 = v7 → Z .normal fr' s) :
    W X (.seq (.draw d3_28) (.cond (.tmp 139) (.seq (.ops o3_29) .ret) .skip)) fr s Z := by
  have sp := sl2 h.p h.hP.2
  have sq := sl2 h.q h.hQ.2
  have a0 := sp.addr (kk := .i64) (i := 0) (k := 0) rfl (by omega)
  have a1 := sp.addr (kk := .i64) (i := 1) (k := 1) rfl (by omega)
  have b0 := sq.addr (kk := .i64) (i := 0) (k := 0) rfl (by omega)
  have b1 := sq.addr (kk := .i64) (i := 1) (k := 1) rfl (by omega)
  simp only [Nat.zero_mul, Nat.one_mul] at a0 a1 b0 b1
  have l0 : loadV s none (elP (.slice (some ⟨P, 0, none⟩) 2 2) 0) = some (.pointer (some ⟨R false, 0, none⟩)) := sp.load (j := 0) rfl
  have l1 : loadV s none (elP (.slice (some ⟨P, 0, none⟩) 2 2) 1) = some (.pointer (some ⟨R true, 0, none⟩)) := sp.load (j := 1) rfl
  have m0 : loadV s none (elP (.slice (some ⟨Q, 0, none⟩) 2 2) 0) = some (.pointer (some ⟨S false, 0, none⟩)) := sq.load (j := 0) rfl
  have m1 : loadV s none (elP (.slice (some ⟨Q, 0, none⟩) 2 2) 1) = some (.pointer (some ⟨S true, 0, none⟩)) := sq.load (j := 1) rfl
  refine W_seq (W_draw0 [0, 1, 5, 6, 7, 139] rfl ?_)
  simp only [d3_28, WD_addrSl, WD_call, WD_load, WD_move, DPureK_some, DReadK_some, pastR_nil, joinF_nil, setH_self, geT_put, evO_tmp, evO_const, List.map_cons, List.map_nil, Nat.reduceAdd, ↓reduceIte, eq_self, true_and, Nat.zero_add, e5, a0, l0]
  refine DCallK_of rfl (held16 hX ho (h.rd false)) ?_
  rintro _ _ ⟨rfl, rfl⟩
  simp only [WD_addrSl, WD_call, WD_load, WD_move, DPureK_some, DReadK_some, pastR_nil, pastR_cons, joinF_nil, setH_self, Nat.testBit, Nat.reduceShiftRight, Nat.reduceAnd, Nat.reduceBneDiff, List.all_nil, List.all_cons, List.filter_nil, List.filter_cons, sameO_ptr, bne_self_eq_false, geT_put, evO_tmp, evO_const, List.map_cons, List.map_nil, Nat.reduceEqDiff, Nat.reduceAdd, ↓reduceIte, Bool.not_true, Bool.and_true, Bool.or_true, eq_self, Bool.false_eq_true, true_and, e6, l0, b0, m0]
  refine DCallK_of rfl (held17 hX ho (h.gd false)) ?_
  rintro _ _ ⟨rfl, rfl⟩
  simp only [WD_addrSl, WD_bin, WD_call, WD_load, WD_move, bin_neq, want_v, wantB_f, DPureK_some, DReadK_some, pastR_cons, joinF_nil, setH_self, Nat.testBit, Nat.reduceShiftRight, Nat.reduceAnd, Nat.reduceBneDiff, List.all_nil, List.all_cons, List.filter_nil, List.filter_cons, sameO_ptr, geT_put, evO_tmp, evO_const, List.map_cons, List.map_nil, Nat.reduceEqDiff, Nat.reduceAdd, ↓reduceIte, Bool.not_true, Bool.not_false, decide_true, Bool.and_true, Bool.or_true, eq_self, Bool.false_eq_true, true_and, e5, m0, a1, l1, WD_yes]
  refine DCallK_of rfl (held16 hX ho (h.rd true)) ?_
  rintro _ _ ⟨rfl, rfl⟩
  simp only [WD_addrSl, WD_call, WD_load, WD_move, want_v, wantB_f, DPureK_some, DReadK_some, pastR_cons, joinF_nil, setH_self, Nat.testBit, Nat.reduceShiftRight, Nat.reduceAnd, Nat.reduceBneDiff, List.all_nil, List.all_cons, List.filter_nil, List.filter_cons, sameO_ptr, bne_self_eq_false, geT_put, evO_tmp, evO_const, List.map_cons, List.map_nil, Nat.reduceEqDiff, Nat.reduceAdd, ↓reduceIte, Bool.not_true, Bool.not_false, Bool.and_true, Bool.or_true, eq_self, Bool.false_eq_true, true_and, e6, l1, b1, m1, WD_yes]
  refine DCallK_of rfl (held17 hX ho (h.gd true)) ?_
  rintro _ _ ⟨rfl, rfl⟩
  simp only [WD_bin, WD_pick, pick_b, bin_neq, want_v, wantB_f, WD_nil, DPureK_some, joinF_nil, joinAll_nil, setH_self, Nat.testBit, Nat.reduceShiftRight, Nat.reduceAnd, Nat.reduceBneDiff, List.all_nil, List.all_cons, List.filter_nil, List.filter_cons, sameO_ptr, geT_put, evO_tmp, evO_const, keep_nil, keep_cons, keepK_eq, Nat.reduceEqDiff, Nat.reduceAdd, ↓reduceIte, Bool.not_true, Bool.not_false, decide_true, Bool.and_true, Bool.or_true, eq_self, Bool.false_eq_true, true_and, e0, e1, e5, e6, e7, m1, WD_yes]
  clear e0 e1 e5 e6 e7
  intro fr e0 e1 e5 e6 e7 e139
  refine SeqK_n ?_
  refine W_cond e139 (fun h => by cases h) (fun _ => W_skip (hZ _ e0 e1 e5 e6 e7))

end Go.Proofs.Ytkfcejhebepdkaa

/- The readers' law: a piece, whole. -/
namespace Go.Proofs.Ytkfcejhebepdkaa
open Go Go.Vam


set_option maxHeartbeats 2000000 in
theorem run3_piece {X : Ctx} (hX : X.fns = fnsOf Try.prog) (ho : ∀ f args, f ≠ 9 → X.orc f args = none) {n0 lim k : Nat} {s1 s : Mm} {P Q : Nat} {R S : Bool → Nat} {st : Bool → Option (List UInt8)} {F G : Bool → Nat → Prop} {c : Bool} (h1 : Inv n0 s1 P Q R S st F G lim) (hs : Same s1 s (fun _ => False))
    {bs : List (List UInt8)} {K0 : Nat → Prop} {v0 v1 v9 : Value} (hb : BsT s v0 bs K0) (hK0 : ∀ x, K0 x → x < n0) (hn0 : n0 ≤ s1.nxt) (hk : k < bs.length) (hn : lim + bs[k].length ≤ 1048576) (o9 : Own s 1 v9 bs[k].length (bsV bs[k])) (f9 : ∀ x, footV v9 x → s1.nxt ≤ x) {fr : Fr}
    (e0 : geT fr 0 = v0) (e1 : geT fr 1 = v1) (e5 : geT fr 5 = .slice (some ⟨P, 0, none⟩) 2 2) (e6 : geT fr 6 = .slice (some ⟨Q, 0, none⟩) 2 2) (e7 : geT fr 7 = .int .i64 (k : Nat)) (e8 : geT fr 8 = .int .i64 (cN c : Nat)) (e9 : geT fr 9 = v9) {Z : AExit → Fr → Mm → Prop}
    (hZ : ∀ fr' s' st' F' G', geT fr' 0 = v0 → geT fr' 1 = v1 → geT fr' 5 = .slice (some ⟨P, 0, none⟩) 2 2 → geT fr' 6 = .slice (some ⟨Q, 0, none⟩) 2 2 → geT fr' 7 = .int .i64 (k : Nat) → Inv n0 s' P Q R S st' F' G' (lim + bs[k].length) → Same s s' (fun x => n0 ≤ x) → Z .normal fr' s') :
    W X (.seq (.ops o3_14) (.seq (.draw d3_15) (.seq (.seq (.draw d3_16) (.cond (.tmp 99) (.seq (.ops o3_17) .ret) .skip)) (.seq (.seq (.ops o3_18) (.block 2 (.loop b3_19))) (.seq (.seq (.ops o3_23) (.block 4 (.loop b3_24))) (.seq (.draw d3_28) (.cond (.tmp 139) (.seq (.ops o3_29) .ret) .skip))))))) fr s Z := by
  have h := h1.same hs (fun h => h) (fun h => h) (fun _ _ _ h => h) (fun _ _ _ h => h)
  have hnx := hs.nxt
  have hc2 : cN c < 2 := by cases c <;> decide
  have sp := sl2 h.p h.hP.2
  have sq := sl2 h.q h.hQ.2
  have hFlt : ∀ d x, F d x → x < s1.nxt := fun d => (h1.rd d).lt
  have hGlt : ∀ d x, G d x → x < s1.nxt := fun d => (h1.gd d).lt
  have hP1 := h1.hP
  have hQ1 := h1.hQ
  have o9lt : ∀ x, footV v9 x → x < s.nxt := o9.slc.foot
  have ap := sp.addr (kk := .i64) (i := ((cN c : Nat) : Int)) rfl hc2
  have lp : loadV s none (elP (.slice (some ⟨P, 0, none⟩) 2 2) (cN c)) = some (.pointer (some ⟨R c, 0, none⟩)) := sp.load (j := cN c) (by cases c <;> rfl)
  simp only [Nat.mul_one] at ap
  have hheld := h.held c
  have hb9 : Bs s v9 bs[k] := Bs.of o9.slc
  refine W_seq (W_ops [0, 1, 5, 6, 7, 8, 9, 10, 11] ?_)
  simp only [o3_14, WO_addrSl, WO_call, WO_load, WO_move, PureK_some, geT_put, evO_tmp, List.map_cons, List.map_nil, Nat.reduceEqDiff, ↓reduceIte, eq_self, e5, e8, e9, ap, lp]
  refine CallK_of (step12 hX ho (h.rd c) hb9 (by omega)) ?_
  rintro _ s3 ⟨hs3, F', K, out, cells, r1, q1, w1, rfl, k1, kK, kO⟩
  simp only [WO_extract, ext_20, ext_21, WO_move, WO_nil, PureK_some, geT_put, evO_tmp, keep_nil, keep_cons, keepK_eq, Nat.reduceEqDiff, ↓reduceIte, eq_self, e0, e1, e5, e6, e7, e8, e9]
  clear e0 e1 e5 e6 e7 e8 e9
  intro fr e0 e1 e5 e6 e7 e8 e9 e10 e11
  refine SeqK_n ?_
  have n3 := hs3.nxt
  have sq3 : SlC s3 1 (.slice (some ⟨Q, 0, none⟩) 2 2) 2 _ := sq.same hs3 (fun x hx e => by simp only [footV] at hx; exact (h.nF c x e).2.2 hx)
  have aq := sq3.addr (kk := .i64) (i := ((cN c : Nat) : Int)) rfl hc2
  have lq : loadV s3 none (elP (.slice (some ⟨Q, 0, none⟩) 2 2) (cN c)) = some (.pointer (some ⟨S c, 0, none⟩)) := sq3.load (j := cN c) (by cases c <;> rfl)
  simp only [Nat.mul_one] at aq
  have hb3 : BsT s3 v0 bs K0 := hb.same hs3 (fun x hx e => by have := hK0 x hx; have := (h.nF c x e).1; omega)
  obtain ⟨pc, hpc, _, hpr⟩ := id hb3
  obtain ⟨pv, pv1, pv2, _⟩ := hpr k bs[k] (by simp [hk])
  have gd3 : Rd s3 (S c) (st c) (G c) := (h.gd c).same hs3 (fun x hx e => h.dFG c c x e hx)
  refine W_seq (W_draw0 [0, 1, 5, 6, 7, 9, 10, 11, 12, 13] rfl ?_)
  simp only [d3_15, WD_addrSl, WD_call, WD_load, WD_move, DPureK_some, DReadK_some, pastR_nil, joinF_nil, setH_self, geT_put, evO_tmp, List.map_cons, List.map_nil, Nat.reduceEqDiff, Nat.reduceAdd, ↓reduceIte, eq_self, true_and, Nat.zero_add, Nat.mul_one, e0, e6, e7, e8, aq, lq, hpc.addr (kk := .i64) (i := (k : Int)) rfl hk, hpc.load (j := k) pv1]
  refine DCallK_of rfl (step13 hX ho gd3 pv2 (by omega)) ?_
  rintro _ s4 ⟨hs4, G', K2, out2, cells2, r2, q2, w2, rfl, k2, kK2⟩
  simp only [WD_extract, ext_20, ext_21, WD_move, WD_nil, DPureK_some, joinF_nil, joinAll_nil, setH_self, Nat.testBit, Nat.reduceShiftRight, Nat.reduceAnd, Nat.reduceBneDiff, List.all_nil, List.all_cons, List.filter_nil, List.filter_cons, geT_put, evO_tmp, keep_nil, keep_cons, keepK_eq, Nat.reduceEqDiff, Nat.reduceAdd, ↓reduceIte, Bool.not_true, Bool.and_true, Bool.true_or, eq_self, Bool.false_eq_true, true_and, e0, e1, e5, e6, e7, e9, e10, e11]
  clear e0 e1 e5 e6 e7 e8 e9 e10 e11
  intro fr e0 e1 e5 e6 e7 e9 e10 e11 e12 e13
  refine SeqK_n ?_
  have n4 := hs4.nxt
  have hI4 := h.step hs3 r1 k1 hs4 r2 k2 (m := bs[k].length) (by have := step_held (st := st c) (b := bs[k]); omega)
  have hb4 : BsT s4 v0 bs K0 := hb3.same hs4 (fun x hx e => by have := hK0 x hx; have := (h.nG c x e).1; omega)
  have d9F : ∀ x, footV v9 x → ¬ F c x := fun x hx e => by have := f9 x hx; have := hFlt c x e; omega
  have d9G : ∀ x, footV v9 x → ¬ G c x := fun x hx e => by have := f9 x hx; have := hGlt c x e; omega
  have o94 : Own s4 1 v9 bs[k].length (bsV bs[k]) := (o9.same hs3 d9F).same hs4 d9G
  have oK : ∀ x, K x → x < s3.nxt := w1.lt
  have dKG : ∀ x, K x → ¬ G c x := fun x hx e => by have := (kK x hx).1; have := hGlt c x e; omega
  have dOG : ∀ x, footV out x → ¬ G c x := fun x hx e => by have := (kO x hx).1; have := hGlt c x e; omega
  have q14 := q1.same hs4 dOG
  have w14 := w1.same hs4 dKG
  have hmany := step_many (st := st c) (b := bs[k])
  refine W_assoc ?_
  refine W_seq (W_draw0 [0, 1, 5, 6, 7, 9, 10, 99] rfl ?_)
  simp only [d3_16, WD_bin, WD_call, WD_move, bin_neq, want_v, wantB_f, DPureK_some, joinF_nil, setH_self, geT_put, evO_tmp, List.map_cons, List.map_nil, Nat.reduceEqDiff, Nat.reduceAdd, ↓reduceIte, Bool.not_true, Bool.not_false, decide_true, eq_self, Nat.zero_add, e10, e11, e12, e13, WD_yes]
  refine DCallK_of rfl (run14_self hX ho w14.g w2 q14 q2 (by omega) step_fok) ?_
  rintro _ s5 ⟨rfl, hs5⟩
  have n5 := hs5.nxt
  have hb5 : BsT s5 v0 bs K0 := hb4.same hs5 (fun _ _ h => h)
  obtain ⟨pc5, hpc5, _, hpr5⟩ := id hb5
  obtain ⟨pv5, pv51, pv52, _⟩ := hpr5 k bs[k] (by simp [hk])
  have o95 := o94.same hs5 (fun _ _ h => h)
  have tx := (Bs.of o95.slc).text
  have tx2 := pv52.text
  simp only [WD_addrSl, WD_bin, WD_load, WD_move, WD_pick, pick_b, WD_text, WD_un, un_not, bins_neq, want_v, wantB_f, WD_nil, DPureK_some, DReadK_some, pastR_cons, joinF_nil, joinAll_nil, setH_self, Nat.testBit, Nat.reduceShiftRight, Nat.reduceAnd, Nat.reduceBneDiff, List.all_nil, List.filter_nil, geT_put, evO_tmp, evO_const, keep_nil, keep_cons, keepK_eq, Nat.reduceEqDiff, Nat.reduceAdd, ↓reduceIte, Bool.not_true, Bool.not_false, eq_self, Bool.false_eq_true, true_and, Nat.mul_one, e0, e1, e5, e6, e7, e9, e10, tx, hpc5.addr (kk := .i64) (i := (k : Int)) rfl hk, hpc5.load (j := k) pv51, tx2, WD_yes, beq_self_eq_true]
  clear e0 e1 e5 e6 e7 e9 e10 e11 e12 e13
  intro fr e0 e1 e5 e6 e7 e9 e10 e99
  refine SeqK_n ?_
  refine W_seq (W_cond e99 (fun h => by cases h) (fun _ => W_skip (SeqK_n ?_)))
  have Flt4 : ∀ d x, upd F c F' d x → x < s4.nxt := fun d => (hI4.rd d).lt
  have hI5 := hI4.same hs5 (fun h => h) (fun h => h) (fun _ _ _ h => h) (fun _ _ _ h => h)
  refine W_seq ((run3_in hX ho o95 (by omega) e0 e1 e5 e6 e7 e9 e10).mono fun e fr s6 hh => ?_)
  clear e0 e1 e5 e6 e7 e9 e10 e99
  obtain ⟨rfl, e0, e1, e5, e6, e7, e10, hs6⟩ := hh
  refine SeqK_n ?_
  have fO : ∀ x, footV out x → ¬ footV v9 x := fun x hx e => by have := (kO x hx).1; have := o9lt x e; omega
  have fK : ∀ x, K x → ¬ footV v9 x := fun x hx e => by have := (kK x hx).1; have := o9lt x e; omega
  have q16 := (q14.same hs5 (fun _ _ h => h)).same hs6 fO
  have w16 := (w14.same hs5 (fun _ _ h => h)).same hs6 fK
  have f9F : ∀ d x, upd F c F' d x → ¬ footV v9 x := fun d x hx e => by
    have u1 := f9 x e
    have u2 := o9lt x e
    by_cases ed : d = c
    · subst ed; simp only [upd_self] at hx
      rcases k1 x hx with v | v
      · have := hFlt d x v; omega
      · omega
    · simp only [upd_ne ed] at hx; have := hFlt d x hx; omega
  have f9G : ∀ d x, upd G c G' d x → ¬ footV v9 x := fun d x hx e => by
    have u1 := f9 x e
    have u2 := o9lt x e
    by_cases ed : d = c
    · subst ed; simp only [upd_self] at hx
      rcases k2 x hx with v | v
      · have := hGlt d x v; omega
      · omega
    · simp only [upd_ne ed] at hx; have := hGlt d x hx; omega
  have hI6 := hI5.same hs6 (fun e => by have := f9 P e; omega) (fun e => by have := f9 Q e; omega) f9F f9G
  refine W_seq ((run3_out hX ho q16 w16 (fun x hx e => (kK x e).2.2 hx) step_ok (by omega) e0 e1 e5 e6 e7 e10).mono fun e fr s7 hh => ?_)
  clear e0 e1 e5 e6 e7 e10
  obtain ⟨rfl, e0, e1, e5, e6, e7, hs7⟩ := hh
  refine SeqK_n ?_
  have gKF : ∀ d x, upd F c F' d x → ¬ K x := fun d x hx e => by
    by_cases ed : d = c
    · subst ed; simp only [upd_self] at hx; exact (kK x e).2.1 hx
    · simp only [upd_ne ed] at hx; have := hFlt d x hx; have := (kK x e).1; omega
  have gKG : ∀ d x, upd G c G' d x → ¬ K x := fun d x hx e => by
    have u1 := (kK x e).1
    have u2 := oK x e
    by_cases ed : d = c
    · subst ed; simp only [upd_self] at hx
      rcases k2 x hx with v | v
      · have := hGlt d x v; omega
      · omega
    · simp only [upd_ne ed] at hx; have := hGlt d x hx; omega
  have hI7 := hI6.same hs7 (fun e => by have := (kK P e).1; omega) (fun e => by have := (kK Q e).1; omega) gKF gKG
  have z1 := hs3.trans hs4 (G := fun x => n0 ≤ x) (fun x _ e => (h.nF c x e).1) (fun x _ e => (h.nG c x e).1)
  have z2 := z1.trans hs5 (G := fun x => n0 ≤ x) (fun _ _ h => h) (fun _ _ h => h.elim)
  have z3 := z2.trans hs6 (G := fun x => n0 ≤ x) (fun _ _ h => h) (fun x _ e => by have := f9 x e; omega)
  have z4 := z3.trans hs7 (G := fun x => n0 ≤ x) (fun _ _ h => h) (fun x _ e => by have := (kK x e).1; omega)
  exact run3_held hX ho hI7 e0 e1 e5 e6 e7 fun fr' a0 a1 a5 a6 a7 => hZ _ _ _ _ _ a0 a1 a5 a6 a7 hI7 z4

end Go.Proofs.Ytkfcejhebepdkaa

/- The readers' law. -/
namespace Go.Proofs.Ytkfcejhebepdkaa
open Go Go.Vam

theorem buildSl_p2 {s : Mm} {a b : Nat} : buildSlV s 1 [.pointer none] 2 [(0, 1, .pointer (some ⟨a, 0, none⟩)), (1, 1, .pointer (some ⟨b, 0, none⟩))] = some (.slice (some ⟨s.nxt, 0, none⟩) 2 2, .cells [rdP a, rdP b] false) := rfl

theorem buildSl_b1 {s : Mm} {x : Int} : buildSlV s 1 [.int .u8 0] 1 [(0, 1, .int .u8 x)] = some (.slice (some ⟨s.nxt, 0, none⟩) 1 1, .cells [.int .u8 x] false) := rfl


set_option maxHeartbeats 2000000 in
theorem run3 {X : Ctx} (hX : X.fns = fnsOf Try.prog) (ho : ∀ f args, f ≠ 9 → X.orc f args = none) (hw : X.orc 9 [] = some (.bool true)) {s : Mm} {v0 v1 : Value} {bs : List (List UInt8)} {ws : List Bool} (hb : BsT s v0 bs (fun x => x < s.nxt)) (hws : SlC s 1 v1 ws.length (ws.map .bool)) (hn : bs.length + sumL bs < 4611686018427387904) :
    CallP X 3 [v0, v1] s (fun r s' => r = .bool true) := by
  refine CallP_of (hX ▸ ir3_eq) (ho _ _ (by decide)) (Nat.le_of_ble_eq_true rfl) ?_
  refine W_seq (W_ops [0, 1] ?_)
  simp only [o3_0, WO_move, WO_nil, geT_put, frame_nil, frame_cons, evO_const, keep_nil, keep_cons, keepK_eq, Nat.reduceEqDiff, Nat.reduceAdd, ↓reduceIte, eq_self, Nat.zero_add]
  intro fr e0 e1
  refine SeqK_n ?_
  refine W_assoc ?_
  refine W_seq (W_ops [0, 1, 20] ?_)
  simp only [o3_1, WO_call, WO_move, geT_put, evO_tmp, List.map_cons, List.map_nil, ↓reduceIte, eq_self, e0]
  refine CallK_of (run8 hX ho hb hn) ?_
  rintro _ _ ⟨rfl, rfl⟩
  simp only [WO_nil, geT_put, keep_nil, keep_cons, keepK_eq, Nat.reduceEqDiff, ↓reduceIte, eq_self, e0, e1]
  clear e0 e1
  intro fr e0 e1 e20
  refine SeqK_n ?_
  by_cases hg : 262144 < bs.length + sumL bs
  · rw [decide_eq_true hg] at e20
    refine W_seq (W_cond e20 (fun _ => ?_) (fun h => by cases h))
    refine W_seq (W_ops [4] ?_)
    simp only [o3_2, WO_call, List.map_nil]
    refine CallK_of (wakes_is hw) ?_
    rintro _ _ ⟨rfl, rfl⟩
    simp only [WO_move, WO_nil, geT_put, evO_tmp, keep_nil, keep_cons, keepK_eq, ↓reduceIte, eq_self]
    clear e0 e1 e20
    intro fr e4
    refine SeqK_n ?_
    exact W_ret (SeqK_r (Ret1 e4 rfl))
  rw [decide_eq_false hg] at e20
  refine W_seq (W_cond e20 (fun h => by cases h) (fun _ => W_skip (SeqK_n ?_)))
  refine W_seq (W_ops [0, 1, 5] ?_)
  simp only [o3_3, WO_call, List.map_nil]
  refine CallK_of (run10 hX ho) ?_
  rintro _ s1 ⟨rfl, hs1⟩
  simp only [WO_call, List.map_nil]
  refine CallK_of (run10 hX ho) ?_
  rintro _ s2 ⟨rfl, hs2⟩
  simp only [WO_buildSlice, WO_move, WO_nil, NewK_some, geT_put, evO_tmp, keep_nil, keep_cons, keepK_eq, List.map_cons, List.map_nil, Nat.reduceEqDiff, ↓reduceIte, eq_self, Nat.mul_one, e0, e1, buildSl_p2]
  clear e0 e1 e20
  intro fr e0 e1 e5
  refine SeqK_n ?_
  obtain ⟨s3, hs3⟩ : ∃ s3, s3 = newAt s2 (.cells [rdP s.nxt, rdP s1.nxt] false) := ⟨_, rfl⟩
  rw [← hs3]
  refine W_seq (W_ops [0, 1, 5, 6] ?_)
  simp only [o3_4, WO_call, List.map_nil]
  refine CallK_of (run11 hX ho) ?_
  rintro _ s4 ⟨rfl, hs4⟩
  simp only [WO_call, List.map_nil]
  refine CallK_of (run11 hX ho) ?_
  rintro _ s5 ⟨rfl, hs5⟩
  simp only [WO_buildSlice, WO_move, WO_nil, NewK_some, geT_put, evO_tmp, keep_nil, keep_cons, keepK_eq, List.map_cons, List.map_nil, Nat.reduceEqDiff, ↓reduceIte, eq_self, Nat.mul_one, e0, e1, e5, buildSl_p2]
  clear e0 e1 e5
  intro fr e0 e1 e5 e6
  refine SeqK_n ?_
  obtain ⟨s6, hs6⟩ : ∃ s6, s6 = newAt s5 (.cells [rdP s3.nxt, rdP s4.nxt] false) := ⟨_, rfl⟩
  rw [← hs6]
  have n1 : s1.nxt = s.nxt + 1 := by rw [hs1, nxt_new]
  have n2 : s2.nxt = s.nxt + 2 := by rw [hs2, nxt_new, n1]
  have n3 : s3.nxt = s.nxt + 3 := by rw [hs3, nxt_new, n2]
  have n4 : s4.nxt = s.nxt + 4 := by rw [hs4, nxt_new, n3]
  have n5 : s5.nxt = s.nxt + 5 := by rw [hs5, nxt_new, n4]
  have n6 : s6.nxt = s.nxt + 6 := by rw [hs6, nxt_new, n5]
  have hsame : Same s s6 (fun _ => False) := by
    rw [hs6]; refine Same.trans (F := fun _ => False) (F' := fun _ => False) ?_ .new (fun _ _ h => h) (fun _ _ h => h)
    rw [hs5]; refine Same.trans (F := fun _ => False) (F' := fun _ => False) ?_ .new (fun _ _ h => h) (fun _ _ h => h)
    rw [hs4]; refine Same.trans (F := fun _ => False) (F' := fun _ => False) ?_ .new (fun _ _ h => h) (fun _ _ h => h)
    rw [hs3]; refine Same.trans (F := fun _ => False) (F' := fun _ => False) ?_ .new (fun _ _ h => h) (fun _ _ h => h)
    rw [hs2]; refine Same.trans (F := fun _ => False) (F' := fun _ => False) ?_ .new (fun _ _ h => h) (fun _ _ h => h)
    rw [hs1]; exact .new
  have E := (ABlk.cells [.slice none 0 0, .bool false] false)
  have gR0 : Store.get s6.h s.nxt = some (.cells [.slice none 0 0, .bool false] false) := by
    rw [hs6, get_new, if_neg (by omega), hs5, get_new, if_neg (by omega), hs4, get_new, if_neg (by omega), hs3, get_new, if_neg (by omega), hs2, get_new, if_neg (by omega), hs1, get_new, if_pos rfl]
  have gR1 : Store.get s6.h s1.nxt = some (.cells [.slice none 0 0, .bool false] false) := by
    rw [hs6, get_new, if_neg (by omega), hs5, get_new, if_neg (by omega), hs4, get_new, if_neg (by omega), hs3, get_new, if_neg (by omega), hs2, get_new, if_pos rfl]
  have gP : Store.get s6.h s2.nxt = some (.cells [rdP s.nxt, rdP s1.nxt] false) := by
    rw [hs6, get_new, if_neg (by omega), hs5, get_new, if_neg (by omega), hs4, get_new, if_neg (by omega), hs3, get_new, if_pos rfl]
  have gS0 : Store.get s6.h s3.nxt = some (.cells [.slice none 0 0, .bool false] false) := by
    rw [hs6, get_new, if_neg (by omega), hs5, get_new, if_neg (by omega), hs4, get_new, if_pos rfl]
  have gS1 : Store.get s6.h s4.nxt = some (.cells [.slice none 0 0, .bool false] false) := by
    rw [hs6, get_new, if_neg (by omega), hs5, get_new, if_pos rfl]
  have gQ : Store.get s6.h s5.nxt = some (.cells [rdP s3.nxt, rdP s4.nxt] false) := by rw [hs6, get_new, if_pos rfl]
  clear hs1 hs2 hs3 hs4 hs5 hs6
  have rdOf : ∀ B, B < s6.nxt → Store.get s6.h B = some (.cells [.slice none 0 0, .bool false] false) → Rd s6 B (some []) (fun x => x = B) := fun B hB hg =>
    ⟨rfl, fun x hx => by omega, fun e => (by cases e), fun w e => by cases e; exact ⟨_, 0, hg, .nil, fun x hx => by simp only [footV] at hx⟩⟩
  have hI : Inv s.nxt s6 s2.nxt s5.nxt (fun c => if c then s1.nxt else s.nxt) (fun c => if c then s4.nxt else s3.nxt) (fun _ => some []) (fun c x => x = if c then s1.nxt else s.nxt) (fun c x => x = if c then s4.nxt else s3.nxt) 0 := by
    refine ⟨gP, gQ, by omega, by omega, fun c => ?_, fun c => ?_, fun c d x => ?_, fun c d x => ?_, fun c d x => ?_, fun c x => ?_, fun c x => ?_, fun c => by simp [heldF]⟩
    · cases c
      · exact rdOf _ (by simp; omega) gR0
      · exact rdOf _ (by simp; omega) gR1
    · cases c
      · exact rdOf _ (by simp; omega) gS0
      · exact rdOf _ (by simp; omega) gS1
    · cases c <;> cases d <;> simp <;> omega
    · cases c <;> cases d <;> simp <;> omega
    · cases c <;> cases d <;> simp <;> omega
    · cases c <;> simp <;> omega
    · cases c <;> simp <;> omega
  have sp := sl2 gP (by omega)
  have a0 := sp.addr (kk := .i64) (i := 0) (k := 0) rfl (by omega)
  have a1 := sp.addr (kk := .i64) (i := 1) (k := 1) rfl (by omega)
  simp only [Nat.zero_mul, Nat.one_mul] at a0 a1
  have l0 : loadV s6 none (elP (.slice (some ⟨s2.nxt, 0, none⟩) 2 2) 0) = some (.pointer (some ⟨s.nxt, 0, none⟩)) := sp.load (j := 0) rfl
  have l1 : loadV s6 none (elP (.slice (some ⟨s2.nxt, 0, none⟩) 2 2) 1) = some (.pointer (some ⟨s1.nxt, 0, none⟩)) := sp.load (j := 1) rfl
  refine W_assoc ?_
  refine W_seq (W_ops [0, 1, 5, 6, 37] ?_)
  simp only [o3_5, WO_addrSl, WO_eq, ptr_some, WO_load, WO_move, WO_pick, pick_b, WO_nil, PureK_some, WO_guard, want_v, wantB_f, geT_put, evO_tmp, evO_const, keep_nil, keep_cons, keepK_eq, Nat.reduceEqDiff, ↓reduceIte, Bool.not_false, eq_self, Bool.false_eq_true, e0, e1, e5, e6, a0, l0, a1, l1]
  clear e0 e1 e5 e6
  intro fr e0 e1 e5 e6 e37
  refine SeqK_n ?_
  refine W_seq (W_cond e37 (fun h => by cases h) (fun _ => W_skip (SeqK_n ?_)))
  have hs06 : Same s s6 (fun x => s.nxt ≤ x) := hsame.trans (.refl _ _) (fun _ _ h => h.elim) (fun _ _ h => h)
  refine W_assoc ?_
  refine W_seq (W_ops [0, 1, 5, 6, 7] ?_)
  simp only [o3_7, WO_move, WO_nil, geT_put, evO_const, keep_nil, keep_cons, keepK_eq, Nat.reduceEqDiff, ↓reduceIte, eq_self, e0, e1, e5, e6]
  clear e0 e1 e5 e6 e37
  intro fr e0 e1 e5 e6 e7
  refine SeqK_n ?_
  refine W_seq (W_block (W_loop (fun m fr s7 => ∃ k st F G, k + m = bs.length ∧ geT fr 0 = v0 ∧ geT fr 1 = v1 ∧ geT fr 5 = .slice (some ⟨s2.nxt, 0, none⟩) 2 2 ∧ geT fr 6 = .slice (some ⟨s5.nxt, 0, none⟩) 2 2 ∧ geT fr 7 = .int .i64 (k : Nat) ∧
    Inv s.nxt s7 s2.nxt s5.nxt (fun c => if c then s1.nxt else s.nxt) (fun c => if c then s4.nxt else s3.nxt) st F G (sumL (bs.take k)) ∧ Same s s7 (fun x => s.nxt ≤ x)) bs.length ⟨0, _, _, _, by omega, e0, e1, e5, e6, e7, hI, hs06⟩ ?_))
  · clear e0 e1 e5 e6 e7 fr hI hs06 l0 l1 a0 a1 sp rdOf gQ gS0 gS1 gP gR0 gR1 hsame
    rintro m fr s7 ⟨k, st, F, G, hm, e0, e1, e5, e6, e7, hI, hs7⟩
    have hb7 : BsT s7 v0 bs (fun x => x < s.nxt) := hb.same hs7 (fun x hx e => by omega)
    have hws7 := hws.same hs7 (fun x hx e => by have := hws.foot x hx; omega)
    have n7 := hs7.nxt
    obtain ⟨pc, hpc, _⟩ := id hb7
    refine W_assoc ?_
    refine W_seq (W_ops [0, 1, 5, 6, 7, 41] ?_)
    simp only [o3_9, WO_bin, WO_bu, WO_move, bin_lss, WO_nil, PureK_some, geT_put, evO_tmp, keep_nil, keep_cons, keepK_eq, List.map_cons, List.map_nil, Nat.reduceEqDiff, ↓reduceIte, eq_self, e0, e1, e5, e6, e7, hpc.len]
    clear e0 e1 e5 e6 e7
    intro fr e0 e1 e5 e6 e7 e41
    refine SeqK_n ?_
    refine W_while e41 (fun hlt => ?_) (fun hlt => ?_)
    · have hk : k < bs.length := by omega
      have hst := sumL_take bs k hk
      have hle := sumL_le bs (k + 1)
      refine W_seq (W_block ?_)
      refine W_seq (W_ops [0, 1, 5, 6, 7, 8] ?_)
      simp only [o3_10, WO_move, WO_nil, geT_put, evO_const, keep_nil, keep_cons, keepK_eq, Nat.reduceEqDiff, ↓reduceIte, eq_self, e0, e1, e5, e6, e7]
      clear e0 e1 e5 e6 e7 e41
      intro fr e0 e1 e5 e6 e7 e8
      refine SeqK_n ?_
      refine W_seq (run3_who hX ho hws7 (by omega) e0 e1 e5 e6 e7 e8 (fun fr c e0 e1 e5 e6 e7 e8 => SeqK_n ?_))
      refine W_seq (run3_copy hX ho hb7 hk (by omega) e0 e1 e5 e6 e7 e8 (fun fr s8 v9 e0 e1 e5 e6 e7 e8 e9 o9 hs8 f9 => SeqK_n ?_))
      have hb8 : BsT s8 v0 bs (fun x => x < s.nxt) := hb7.same hs8 (fun _ _ h => h)
      refine run3_piece hX ho hI hs8 hb8 (fun x hx => hx) n7 hk (by omega) o9 f9 e0 e1 e5 e6 e7 e8 e9 (fun fr s9 st' F' G' e0 e1 e5 e6 e7 hI' hs9 => BlkK_n (SeqK_n ?_))
      refine W_ops [0, 1, 5, 6, 7] ?_
      simp only [o3_30, WO_bin, WO_move, bin_add, WO_nil, PureK_some, geT_put, evO_tmp, evO_const, keep_nil, keep_cons, keepK_eq, Nat.reduceEqDiff, ↓reduceIte, eq_self, e0, e1, e5, e6, e7, wrap_i64 (n := (k : Int) + 1) (by omega) (by omega)]
      clear e0 e1 e5 e6 e7
      intro fr e0 e1 e5 e6 e7
      rw [← hst] at hI'
      exact LoopK_n (m' := m - 1) (by omega) ⟨k + 1, st', F', G', by omega, e0, e1, e5, e6, by rw [e7]; rfl, hI', (hs7.trans hs8 (G := fun x => s.nxt ≤ x) (fun _ _ h => h) (fun _ _ h => h.elim)).trans hs9 (fun _ _ h => h) (fun _ _ h => h)⟩
    · refine LoopK_x (BlkK_e (SeqK_n ?_))
      refine W_seq (W_ops [16] ?_)
      simp only [o3_31, WO_move, WO_nil, geT_put, evO_const, keep_nil, keep_cons, keepK_eq, ↓reduceIte, eq_self]
      clear e0 e1 e5 e6 e7 e41
      intro fr e16
      refine SeqK_n ?_
      refine W_seq (W_ops [16, 17, 18] ?_)
      simp only [o3_32, WO_buildSlice, WO_call, WO_move, NewK_some, geT_put, evO_tmp, evO_const, List.map_cons, List.map_nil, Nat.reduceEqDiff, ↓reduceIte, eq_self, Nat.mul_one, e16, buildSl_b1]
      refine CallK_of (run12_nil hX ho) ?_
      rintro _ s8 ⟨rfl, rfl⟩
      simp only [WO_extract, ext_20, ext_21, WO_move, WO_nil, PureK_some, geT_put, evO_tmp, keep_nil, keep_cons, keepK_eq, Nat.reduceEqDiff, ↓reduceIte, eq_self, e16]
      clear e16
      intro fr e16 e17 e18
      refine SeqK_n ?_
      have hl0 : buV .len [.slice none 0 0] = some (.int .i64 0) := rfl
      refine W_seq (W_ops [4] ?_)
      simp only [o3_33, WO_bin, WO_bu, WO_call, WO_move, WO_pick, pick_b, bin_eql, PureK_some, WO_guard, want_v, wantB_t, geT_put, evO_tmp, evO_const, List.map_cons, List.map_nil, Nat.reduceEqDiff, ↓reduceIte, decide_true, eq_self, e16, e17, e18, hl0]
      refine CallK_of (run16_nil hX ho) ?_
      rintro _ _ ⟨rfl, rfl⟩
      simp only [WO_bin, WO_call, WO_move, WO_pick, pick_b, bin_eql, PureK_some, WO_guard, want_v, wantB_t, geT_put, evO_tmp, evO_const, List.map_nil, Nat.reduceEqDiff, ↓reduceIte, decide_true, eq_self]
      refine CallK_of (wakes_is hw) ?_
      rintro _ _ ⟨rfl, rfl⟩
      simp only [WO_move, WO_pick, pick_b, WO_nil, PureK_some, geT_put, evO_tmp, evO_const, keep_nil, keep_cons, keepK_eq, Nat.reduceEqDiff, ↓reduceIte, eq_self]
      clear e16 e17 e18
      intro fr e4
      refine SeqK_n ?_
      exact W_ret (Ret1 e4 rfl)

end Go.Proofs.Ytkfcejhebepdkaa

/- What is handed in to the readers' law. -/
namespace Go.Proofs.Ytkfcejhebepdkaa
open Go Go.Vam

/-- A slice that is handed in, and its reading. -/
theorem Abs.slB {P : Program} {T : Type} {s : Mm} (hs : Lt s) {t e : TypeId} {sz : Nat} (ht : P.underlying t = some (.slice e)) (hsz : P.cellsOf e = sz) {cs : List Value} {d : DataW T} (h : Abs P s t cs d) :
    ∃ (v : Value) (ls : List (List Value)) (ds : List (DataW T)), cs = [v] ∧ SlC s sz v ls.length ls.flatten ∧ ds.length = ls.length ∧ (ds = [] ∨ ∃ rest, d = .slice ds rest) ∧
      (∀ (i : Nat) (l : List Value) (d : DataW T), ls[i]? = some l → ds[i]? = some d → l.length = sz ∧ Abs P s e l d) := by
  have hO : maxLen < OPEN := by decide
  cases h with
  | nil h => exact ⟨_, [], [], rfl, .nil, rfl, .inl rfl, fun i l d hl => by simp at hl⟩
  | @slice _ e' B cap ls ds rest h hg hsz' hlen hcap hel =>
    rw [ht] at h; cases h
    have hlf : ls.flatten.length = ls.length * sz := by
      have : ∀ ls : List (List Value), (∀ l ∈ ls, l.length = P.cellsOf e) → ls.flatten.length = ls.length * sz := by
        intro ls
        induction ls with
        | nil => intro _; simp
        | cons l ls ih => intro h; simp only [List.flatten_cons, List.length_append, List.length_cons, ih (fun x hx => h x (by simp [hx])), h l (by simp), hsz, Nat.add_mul]; omega
      exact this ls hsz'
    refine ⟨_, ls, ds, rfl, .mk (blk_ro hg) (hs _ _ hg) (by rw [List.drop_zero, ← hlf, List.take_length]) (by omega) ?_, hlen, .inr ⟨rest, rfl⟩, fun i l d hl hd => ⟨by rw [← hsz]; exact hsz' l (List.mem_of_getElem? hl), hel i l d hl hd⟩⟩
    · rcases hcap with ⟨h1, h2⟩ | ⟨h1, h2⟩
      · exact .inl ⟨h1, by omega⟩
      · right; rw [h2, hsz]
  | bool h => rw [ht] at h; cases h
  | int h => rw [ht] at h; cases h
  | float h => rw [ht] at h; cases h
  | string h => rw [ht] at h; cases h
  | struct h => rw [ht] at h; cases h
  | array h => rw [ht] at h; cases h

/-- Readings counted: each value at least once. -/
def cnt {T : Type} : DataW T → Nat
  | .slice ds _ => ds.length
  | _ => 0

def cntAll {T : Type} : List (DataW T) → Nat
  | [] => 0
  | d :: l => cnt d + cntAll l

theorem bytes_abs {T : Type} {s : Mm} (hs : Lt s) {t e : TypeId} {P : Program} (ht : P.underlying t = some (.slice e)) (he : P.underlying e = some (.int .u8)) (hsz : P.cellsOf e = 1) {cs : List Value} {d : DataW T} (h : Abs P s t cs d) :
    ∃ (v : Value) (b : List UInt8), cs = [v] ∧ Bs s v b ∧ b.length ≤ cnt d := by
  obtain ⟨v, ls, ds, h1, h2, h3, h4, h5⟩ := Abs.slB hs ht hsz h
  obtain ⟨xs, h6, h7⟩ := ones_of (f := .int .u8) (p := fun x => (Lit.int .u8 x).wf = true) ls ds h3 (fun i l d hl hd => by
    obtain ⟨n, g1, _, g2⟩ := (h5 i l d hl hd).2.i he
    exact ⟨n, g1, g2⟩)
  subst h6
  rw [flat_ones, List.length_map] at h2
  rw [List.length_map] at h3
  have hx : xs.map (.int .u8) = bsV (xs.map fun x => UInt8.ofNat x.toNat) := by
    simp only [bsV, List.map_map]
    refine List.map_congr_left fun x hx => ?_
    have := h7 x hx
    simp only [Lit.wf, IntKind.min, IntKind.max, IntKind.bits, IntKind.signed] at this
    have hr : 0 ≤ x ∧ x ≤ 255 := by simpa using this
    simp only [Function.comp, byteV]
    congr 1
    have : (UInt8.ofNat x.toNat).toNat = x.toNat := by simp []; omega
    rw [this]; omega
  rw [hx] at h2
  refine ⟨v, _, h1, Bs.of h2, ?_⟩
  rw [List.length_map]
  rcases h4 with h4 | ⟨rest, h4⟩
  · subst h4; simp at h3; omega
  · subst h4; simp only [cnt]; omega

theorem pieces_abs {T : Type} {s : Mm} (hs : Lt s) {t e : TypeId} {P : Program} (ht : P.underlying t = some (.slice e)) (he : P.underlying e = some (.int .u8)) (hsz : P.cellsOf e = 1) : ∀ (ls : List (List Value)) (ds : List (DataW T)), ds.length = ls.length → (∀ (i : Nat) (l : List Value) (d : DataW T), ls[i]? = some l → ds[i]? = some d → Abs P s t l d) →
    ∃ bs : List (List UInt8), bs.length = ls.length ∧ ls.flatten.length = ls.length ∧ sumL bs ≤ cntAll ds ∧ ∀ (i : Nat) (b : List UInt8), bs[i]? = some b → ∃ c, ls.flatten[i]? = some c ∧ Bs s c b := by
  intro ls
  induction ls with
  | nil => intro ds _ _; exact ⟨[], rfl, rfl, Nat.zero_le _, fun i b h => by simp at h⟩
  | cons l ls ih =>
    intro ds hd h
    cases ds with
    | nil => simp at hd
    | cons d ds =>
      obtain ⟨v, b, rfl, g1, g2⟩ := bytes_abs hs ht he hsz (h 0 l d rfl rfl)
      obtain ⟨bs, i1, i2, i3, i4⟩ := ih ds (by simpa using hd) (fun i l d hl hdd => h (i + 1) l d (by simpa using hl) (by simpa using hdd))
      refine ⟨b :: bs, by simp [i1], by simp [i2], by simp only [sumL, cntAll]; omega, fun i b' hb => ?_⟩
      cases i with
      | zero => simp at hb; subst hb; exact ⟨v, rfl, g1⟩
      | succ i => obtain ⟨c, c1, c2⟩ := i4 i b' (by simpa using hb); exact ⟨c, by simpa using c1, c2⟩

end Go.Proofs.Ytkfcejhebepdkaa
