/- Peaks: spots sorted. -/
import Derived.Test.YtpphomoijlilfaaGA
import Derived.Test.YtpphomoijlilfaaSB
import Derived.Test.YtpphomoijlilfaaSM
namespace Go.Proofs.Ytpphomoijlilfaa.G
open Go Go.Vam Go.Hang Go.Sort
def ltI (x y : SpI) : Prop := x.1 < y.1 ∨ (x.1 = y.1 ∧ x.2.1 < y.2.1)
instance (x y : SpI) : Decidable (ltI x y) := by unfold ltI; infer_instance
theorem ltI_irr (x : SpI) : ¬ ltI x x := by unfold ltI; omega
theorem ltI_tr (x y z : SpI) (h : ltI x y) (g : ltI y z) : ltI x z := by unfold ltI at *; omega
theorem ltI_tri {x y : SpI} (h : cellI x ≠ cellI y) (g : ¬ ltI y x) : ltI x y := by
  unfold ltI at *
  by_cases h1 : x.1 = y.1
  · by_cases h2 : x.2.1 = y.2.1
    · exact absurd (by unfold cellI; rw [h1, h2]) h
    · omega
  · omega
def ahZ (x y : SpI) : Int := if x.1 = y.1 then wrapK .i64 (x.2.1 - y.2.1) else wrapK .i64 (x.1 - y.1)
def VI (x : SpI) : Prop := (0 ≤ x.1 ∧ x.1 ≤ 9223372036854775807) ∧ (0 ≤ x.2.1 ∧ x.2.1 ≤ 9223372036854775807)
structure Vs where
  x : SpI
  h : VI x
instance : Inhabited Vs := ⟨⟨(0, 0, 0), by unfold VI; decide⟩⟩
def eVs (x : Vs) : Value := sI x.x
def eCs (x : Vs) : List Value := eI x.x
def ltV (x y : Vs) : Bool := decide (ltI x.x y.x)
theorem elS : El 3 (some 3) eVs eCs := ⟨by decide, fun _ => rfl, fun _ => rfl, .inr ⟨rfl, fun _ => rfl⟩, fun x => by simp [sameO, sameV, beqV, eVs, sI]⟩
theorem swoV : SWO ltV where
  irrefl x := decide_eq_false (ltI_irr x.x)
  trans x y z h g := decide_eq_true (ltI_tr _ _ _ (of_decide_eq_true h) (of_decide_eq_true g))
  ntrans x y z h g := by
    have h := of_decide_eq_false h
    have g := of_decide_eq_false g
    refine decide_eq_false ?_
    unfold ltI at *; omega
theorem ahZ_lt (x y : Vs) : decide (ahZ x.x y.x < 0) = ltV x y := by
  obtain ⟨x, ⟨x1, x2⟩, x3, x4⟩ := x
  obtain ⟨y, ⟨y1, y2⟩, y3, y4⟩ := y
  refine decide_eq_decide.2 ?_
  show ahZ x y < 0 ↔ ltI x y
  unfold ahZ ltI
  split
  · rename_i h
    rw [qal (by omega) (by omega)]
    omega
  · rename_i h
    rw [qal (by omega) (by omega)]
    omega
def subV : (q : List SpI) → (∀ x ∈ q, VI x) → List Vs
  | [], _ => []
  | x :: q, h => ⟨x, h x (by simp)⟩ :: subV q (fun y hy => h y (by simp [hy]))
theorem subV_len : ∀ (q : List SpI) (h : ∀ x ∈ q, VI x), (subV q h).length = q.length
  | [], _ => rfl
  | x :: q, h => by simp [subV, subV_len q]
theorem val_sub : ∀ (q : List SpI) (h : ∀ x ∈ q, VI x), (subV q h).map (·.x) = q
  | [], _ => rfl
  | x :: q, h => by simp [subV, val_sub q]
theorem fl_val (l : List Vs) : l.flatMap eCs = (l.map (·.x)).flatMap eI := by
  induction l with
  | nil => rfl
  | cons x l ih => rw [List.flatMap_cons, List.map_cons, List.flatMap_cons, ih]; rfl
theorem perm_all {d d' : Array Vs} {n : Nat} (hn : d.size = n) (h : PermIn 0 n d d') : d'.toList.Perm d.toList ∧ d'.size = n := by
  obtain ⟨h1, _, h3⟩ := h
  have e1 : d'.extract 0 n = d' := by rw [← hn, ← h1]; simp
  have e2 : d.extract 0 n = d := by rw [← hn]; simp
  rw [e1, e2] at h3
  exact ⟨h3, h1.trans hn⟩
theorem flat_sub {q : List SpI} (h : ∀ x ∈ q, VI x) : flE eCs (subV q h).toArray = q.flatMap eI := by
  show (subV q h).flatMap eCs = _
  rw [fl_val, val_sub]
theorem sortSpots {X : Ctx} (hX : X.fns = fnsOf Try.prog) (ho : ∀ f args, f ≠ 15 ∧ f ≠ 38 → X.orc f args = none) (hA : ∀ x y : SpI, X.orc 38 [sI x, sI y] = some (.int .i64 (ahZ x y))) {s0 s : Mm} {l : List HP} {v : Value} {q : List SpI} (hq : ∀ x ∈ q, VI x) (hl : q.length ≤ 5864062014634) (H : Hold s0 s (HP.own 3 v q.length (q.flatMap eI) :: l)) :
    CallP X 37 [v, .func (.func 38) #[] #[]] s (fun _ s' => ∃ q' : List SpI, q'.Perm q ∧ q'.Pairwise (fun a b => ¬ ltI b a) ∧ Hold s0 s' (HP.own 3 v q.length (q'.flatMap eI) :: l)) := by
  have hs : (subV q hq).toArray.size = q.length := by simp [subV_len]
  rw [← flat_sub hq] at H
  obtain ⟨r, s', h1, d', h2, h3, h4⟩ := run37 hX ho (eV := eVs) (eC := eCs) elS (lt := ltV) (C := 38) (s0 := s0) (L0 := []) (Q := True)
    (fun s l' x y _ _ _ => ⟨_, _, Call_orc (hA x.x y.x), ahZ x.x y.x, rfl, ahZ_lt x y, rfl⟩) swoV (s := s) (l := l) (fun P hP => by simp at hP) (fun _ => trivial) H (by omega)
  obtain ⟨p1, p2⟩ := perm_all hs h2
  refine ⟨r, s', h1, d'.toList.map (·.x), ?_, ?_, ?_⟩
  · have := p1.map (fun x : Vs => x.x)
    rw [show (subV q hq).toArray.toList = subV q hq from rfl, val_sub] at this
    exact this
  · rw [List.pairwise_map, List.pairwise_iff_getElem]
    intro i j hi hj hij
    have := h3 i j (Nat.zero_le _) hij (by rw [← p2]; simpa using hj)
    rw [get_list (i := i) (by simpa using hi), get_list (i := j) (by simpa using hj)] at this
    exact of_decide_eq_false this
  · rw [← fl_val]; exact h4
end Go.Proofs.Ytpphomoijlilfaa.G

/- Peaks: Groups' second loop, walked. -/
namespace Go.Proofs.Ytpphomoijlilfaa.G
open Go Go.Vam Go.Hang
def rowsHP (G : List (Value × List SpI)) : List HP := G.map fun g => HP.own 3 g.1 g.2.length (g.2.flatMap eI)
def TG (G : List (Value × List SpI)) (x : SpI) : Prop := ∃ g ∈ G, x ∈ g.2
structure GOk (all : List SpI) (B : Int) (G : List (Value × List SpI)) : Prop where
  some : ∀ g ∈ G, g.2 ≠ []
  sort : ∀ g ∈ G, g.2.Pairwise ltI
  whole : ∀ g ∈ G, ∀ x ∈ g.2, ∀ y, y ∈ g.2 ↔ y ∈ all ∧ Hang.Reach all (adj B) x y
  apart : G.Pairwise fun a b => ∀ x ∈ a.2, x ∉ b.2
theorem GOk.closed {all : List SpI} {B : Int} {G : List (Value × List SpI)} (h : GOk all B G) : ∀ x ∈ all, TG G x → ∀ y ∈ all, adj B x y → TG G y := by
  rintro x _ ⟨g, hg, hx⟩ y hy hr
  exact ⟨g, hg, (h.whole g hg x hx y).2 ⟨hy, Hang.Reach.refl.step hy hr⟩⟩
theorem FI.zero {all : List SpI} {T : SpI → Prop} {f : FM} (hN : (all.map cellI).Nodup) (h : FI all T f []) {x : SpI} (hx : x ∈ all) : (f (cellI x)).getD 0 = 0 ↔ T x := by
  constructor
  · intro h0
    cases hf : f (cellI x) with
    | none =>
      apply Classical.byContradiction
      intro hT
      obtain ⟨i, hi, e⟩ := List.getElem_of_mem hx
      have := (h (cellI x) ((i : Int) + 1)).2 ⟨i, x, by rw [List.getElem?_eq_getElem hi, e], rfl, rfl, hT, by simp⟩
      rw [hf] at this; cases this
    | some n =>
      obtain ⟨i, y, _, _, h3, _⟩ := (h _ n).1 hf
      rw [hf] at h0
      have : n = 0 := h0
      omega
  · intro hT
    cases hf : f (cellI x) with
    | none => rfl
    | some n =>
      obtain ⟨i, y, h1, h2, _, h4, _⟩ := (h _ n).1 hf
      have := same_cell hN hx (List.mem_of_getElem? h1) h2.symm
      subst this
      exact absurd hT h4
theorem GOk.add {all : List SpI} {B : Int} {G : List (Value × List SpI)} (hok : ∀ x ∈ all, okI B x ∧ wI x) (hN : (all.map cellI).Nodup) (h : GOk all B G) {x : SpI} {q q' : List SpI} {gv : Value} (hF : Flood all (adj B) (TG G) x q q.length) (hp : q'.Perm q) (hs : q'.Pairwise fun a b => ¬ ltI b a) : GOk all B (G ++ [(gv, q')]) := by
  have hxa := (hF.sub x hF.hx).1
  have hsy : ∀ x ∈ all, ∀ y ∈ all, adj B x y → adj B y x := fun x hx y hy hr => adj_symm (hok x hx).1 (hok y hy).1 (hok x hx).2 (hok y hy).2 hr
  refine ⟨fun g hg => ?_, fun g hg => ?_, fun g hg y hy z => ?_, ?_⟩
  · rcases List.mem_append.1 hg with hg | hg
    · exact h.some g hg
    · simp at hg; subst hg
      intro e
      have := hp.mem_iff.2 hF.hx
      simp only at e
      rw [e] at this; simp at this
  · rcases List.mem_append.1 hg with hg | hg
    · exact h.sort g hg
    · simp at hg; subst hg
      have hn : q'.Nodup := hp.nodup_iff.2 hF.nodup
      refine (hs.and hn).imp_of_mem ?_
      rintro a b ha hb ⟨h1, h2⟩
      exact ltI_tri (fun e => h2 (same_cell hN (hF.sub a (hp.mem_iff.1 ha)).1 (hF.sub b (hp.mem_iff.1 hb)).1 e)) h1
  · rcases List.mem_append.1 hg with hg | hg
    · exact h.whole g hg y hy z
    · simp at hg; subst hg
      simp only at hy ⊢
      have hy' := (hF.whole y).1 (hp.mem_iff.1 hy)
      rw [hp.mem_iff, hF.whole z]
      constructor
      · rintro ⟨a, b⟩; exact ⟨a, (hy'.2.symm hsy hxa).trans b⟩
      · rintro ⟨a, b⟩; exact ⟨a, hy'.2.trans b⟩
  · rw [List.pairwise_append]
    refine ⟨h.apart, by simp, fun a ha b hb y hy hy' => ?_⟩
    simp at hb; subst hb
    exact (hF.sub y (hp.mem_iff.1 hy')).2.2 ⟨a, ha, hy⟩
theorem own_sl {s : Mm} {sz n : Nat} {v : Value} {cs : List Value} (h : Own s sz v n cs) : ∃ a n c, v = Value.slice a n c := by
  cases h <;> exact ⟨_, _, _, rfl⟩
set_option maxHeartbeats 8000000 in
theorem loop17c {X : Ctx} (hX : X.fns = fnsOf Try.prog) (ho : ∀ f args, f ≠ 15 ∧ f ≠ 38 → X.orc f args = none) (hA38 : ∀ x y : SpI, X.orc 38 [sI x, sI y] = some (.int .i64 (ahZ x y))) {fr : Fr} {s0 s : Mm} {Bm Bt Ba : Nat} {av : Value} {B : Int} {all : List SpI} {f : FM} {Q : AExit → Fr → Mm → Prop}
    (hB : B ≤ 9223372036854775807) (hok : ∀ x ∈ all, okI B x ∧ wI x) (hN : (all.map cellI).Nodup) (hall : all.length ≤ 5864062014634)
    (e1 : geT fr 1 = .int .i64 B) (e5 : geT fr 5 = .pointer (some ⟨Bt, 0, none⟩)) (e6 : geT fr 6 = .pointer (some ⟨Ba, 0, none⟩)) (e10 : geT fr 10 = .slice none 0 0) (e56 : geT fr 56 = .int .i64 (all.length : Nat)) (e57 : geT fr 57 = .int .i64 0)
    (hI : FI all (TG []) f []) (H : Hold s0 s [HP.map Bm f, HP.cell Bt [.map (some Bm)], HP.cell Ba [av], HP.own 3 av all.length (all.flatMap eI), HP.own 1 (.slice none 0 0) 0 []])
    (hQ : ∀ fr s ov f G, geT fr 10 = ov → GOk all B G → (∀ x ∈ all, TG G x) → G.length ≤ all.length → Hold s0 s (HP.map Bm f :: HP.cell Bt [.map (some Bm)] :: HP.cell Ba [av] :: HP.own 3 av all.length (all.flatMap eI) :: HP.own 1 ov G.length (G.map (·.1)) :: rowsHP G.reverse) → Q .normal fr s) :
    W X (.block 2 (.loop b17_14)) fr s Q := by
  refine qat (W_loop (fun m fr s1 => ∃ (i : Nat) (ov : Value) (f : FM) (G : List (Value × List SpI)), i + m = all.length ∧ G.length ≤ i ∧ GOk all B G ∧ (∀ j x, j < i → all[j]? = some x → TG G x) ∧ FI all (TG G) f [] ∧
    geT fr 1 = .int .i64 B ∧ geT fr 5 = .pointer (some ⟨Bt, 0, none⟩) ∧ geT fr 6 = .pointer (some ⟨Ba, 0, none⟩) ∧ geT fr 10 = ov ∧ geT fr 56 = .int .i64 (all.length : Nat) ∧ geT fr 57 = .int .i64 (i : Nat) ∧
    Hold s0 s1 (HP.map Bm f :: HP.cell Bt [.map (some Bm)] :: HP.cell Ba [av] :: HP.own 3 av all.length (all.flatMap eI) :: HP.own 1 ov G.length (G.map (·.1)) :: rowsHP G.reverse)) all.length
    ⟨0, _, f, [], by omega, Nat.le_refl _, ⟨fun g hg => by simp at hg, fun g hg => by simp at hg, fun g hg => by simp at hg, .nil⟩, fun j x hj => absurd hj (Nat.not_lt_zero j), hI, e1, e5, e6, e10, e56, e57, H⟩ ?_)
  clear e1 e5 e6 e10 e56 e57 fr H s hI f
  rintro m fr s1 ⟨i, ov, f, G, hi, hGl, hG, hdone, hI, e1, e5, e6, e10, e56, e57, H⟩
  refine qak (qan [1, 5, 6, 10, 56, 57, 58] ?_)
  simp only [o17_15, qao, bin_lss, qaj, qag, qad, qaf, qab, qaa, qac, Nat.reduceEqDiff, ↓reduceIte, eq_self, e1, e5, e6, e10, e56, e57]
  clear e1 e5 e6 e10 e56 e57
  intro fr e1 e5 e6 e10 e56 e57 e58
  refine qai ?_
  refine W_while e58 (fun hlt => ?_) (fun hlt => ?_)
  · have hi1 : i < all.length := by omega
    obtain ⟨x, hx⟩ : ∃ x, all[i]? = some x := ⟨all[i], List.getElem?_eq_getElem hi1⟩
    have hxa := List.mem_of_getElem? hx
    have hat : atI all i = x := by unfold atI; rw [hx]; rfl
    have sa := (H.own (sz := 3) (v := av) (n := all.length) (cs := all.flatMap eI) (by simp)).slc
    have A := sa.addr (kk := .i64) (i := (i : Int)) rfl hi1
    have p0 := sa.fld (by omega : 0 < all.length) (i * 3) 0
    have p1 := sa.fld (by omega : 0 < all.length) (i * 3) 1
    rw [Nat.add_zero] at p0
    obtain ⟨f0, f1, _⟩ := flatI hi1
    rw [hat] at f0 f1
    have l0 := sa.load f0
    have l1 := sa.load f1
    obtain ⟨_, lw⟩ := spots_at sa hi1 rfl
    rw [hat] at lw
    have hbu : buildV [.int .i64 0, .int .i64 0] [(0, 1, .int .i64 x.1), (1, 1, .int .i64 x.2.1)] = some (keyV (cellI x)) := rfl
    have hkt : ATy.struct [(0, none, .int), (1, none, .int)] = pairT := rfl
    have lt : loadV s1 none (.pointer (some ⟨Bt, 0, none⟩)) = some (.map (some Bm)) := load_g (o := 0) (H.cell (B := Bt) (cs := [.map (some Bm)]) (by simp))
    have la : loadV s1 none (.pointer (some ⟨Ba, 0, none⟩)) = some av := load_g (o := 0) (H.cell (B := Ba) (cs := [av]) (by simp))
    have lk := H.look (B := Bm) (f := f) (by simp) (cellI x)
    have hz := hI.zero hN hxa
    refine qak (qat ?_)
    refine qak (qan [1, 5, 6, 10, 11, 56, 57] ?_)
    simp only [o17_16, qah, qaj, qad, qaf, qab, qaa, qac, Nat.reduceEqDiff, ↓reduceIte, eq_self, e1, e5, e6, e10, e56, e57]
    clear e1 e5 e6 e10 e56 e57 e58
    intro fr e1 e5 e6 e10 e11 e56 e57
    refine qai ?_
    refine qau ?_
    refine qak (qbb [1, 5, 6, 10, 11, 56, 57, 73] rfl ?_)
    simp only [d17_17, qay, WD_bin, WD_build, WD_fieldAddr, WD_load, WD_lookup, qba, bin_eql, WD_nil, qam, qas, qaw, qaq, qap, qad, qaf, qae, qab, qaa, qac, List.map_cons, List.map_nil, Nat.reduceEqDiff, Nat.reduceAdd, ↓reduceIte, eq_self, true_and, Nat.zero_add, e1, e5, e6, e10, e11, e56, e57, lt, la, A, p0, p1, l0, l1, hbu, hkt, lk]
    clear e1 e5 e6 e10 e11 e56 e57
    intro fr e1 e5 e6 e10 e11 e56 e57 e73
    refine qai ?_
    refine qak (W_if e73 (fun h0 => ?_) (fun h0 => W_skip (qai ?_)))
    · refine W_exit (SeqK_x (BlkK_e (qai ?_)))
      refine qan [1, 5, 6, 10, 56, 57] ?_
      simp only [o17_27, qao, qah, qax, qaj, qag, qad, qaf, qae, qab, qaa, qac, Nat.reduceEqDiff, ↓reduceIte, eq_self, e1, e5, e6, e10, e56, e57, qal (n := (i : Int) + 1) (by omega) (by omega)]
      clear e1 e5 e6 e10 e56 e57
      intro fr e1 e5 e6 e10 e56 e57
      refine LoopK_n (m' := m - 1) (by omega) ⟨i + 1, ov, f, G, by omega, by omega, hG, fun j y hj hy => ?_, hI, e1, e5, e6, e10, e56, by rw [e57]; rfl, H⟩
      by_cases hji : j = i
      · subst hji
        rw [hx] at hy; cases hy
        exact hz.1 h0
      · exact hdone j y (by omega) hy
    · have hTx : ¬ TG G x := fun h => h0 (hz.2 h)
      have H1 := (H.new (eI x)).cellOwn (sz := 3) (n := 1) rfl (by decide)
      have H2 := H1.new [.slice none 0 0]
      have st : storeV (newAt (newAt s1 (.cells (eI x) false)) (.cells [.slice none 0 0] false)) 1 (.pointer (some ⟨s1.nxt + 1, 0, none⟩)) (.slice (some ⟨s1.nxt, 0, none⟩) 1 1) = some (undefV, setBlk (newAt (newAt s1 (.cells (eI x) false)) (.cells [.slice none 0 0] false)) (s1.nxt + 1) (.cells [.slice (some ⟨s1.nxt, 0, none⟩) 1 1] false)) :=
        store_g (cs := [.slice none 0 0]) (H2.cell (List.mem_cons_self ..)) rfl Nat.zero_lt_one
      have H3 := (H2.setc (cs' := [.slice (some ⟨s1.nxt, 0, none⟩) 1 1])).up2
      refine qak (qan [1, 5, 6, 10, 11, 12, 56, 57] ?_)
      simp only [o17_18, WO_addrSl, WO_alloc, nxt_new, WO_buildSlice, WO_load, qah, WO_store, qaj, qag, MemK_some, NewK_some, qad, puT_none, qaf, qab, qaa, qac, List.map_cons, List.map_nil, Nat.reduceEqDiff, ↓reduceIte, eq_self, Nat.zero_mul, e1, e5, e6, e10, e11, e56, e57, la, A, lw, buildSl_sI, st]
      clear e1 e5 e6 e10 e11 e56 e57
      intro fr e1 e5 e6 e10 e11 e12 e56 e57
      refine qai ?_
      have H3' : Hold s0 (setBlk (newAt (newAt s1 (.cells (eI x) false)) (.cells [.slice none 0 0] false)) (s1.nxt + 1) (.cells [.slice (some ⟨s1.nxt, 0, none⟩) 1 1] false)) (HP.map Bm f :: HP.cell (s1.nxt + 1) [.slice (some ⟨s1.nxt, 0, none⟩) 1 1] :: HP.own 3 (.slice (some ⟨s1.nxt, 0, none⟩) 1 1) 1 (eI x) ::
        HP.cell Bt [.map (some Bm)] :: HP.cell Ba [av] :: HP.own 3 av all.length (all.flatMap eI) :: HP.own 1 ov G.length (G.map (·.1)) :: rowsHP G.reverse) := H3
      clear H3 H2 H1 st lt la lk l0 l1 lw f0 f1 H sa
      generalize setBlk (newAt (newAt s1 (.cells (eI x) false)) (.cells [.slice none 0 0] false)) (s1.nxt + 1) (.cells [.slice (some ⟨s1.nxt, 0, none⟩) 1 1] false) = s2 at H3' ⊢
      generalize s1.nxt + 1 = Bg at H3' e12
      generalize Value.slice (some ⟨s1.nxt, 0, none⟩) 1 1 = gv at H3'
      have sa := (H3'.own (sz := 3) (v := av) (n := all.length) (cs := all.flatMap eI) (by simp)).slc
      obtain ⟨f0, f1, _⟩ := flatI hi1
      rw [hat] at f0 f1
      have l0 := sa.load f0
      have l1 := sa.load f1
      have lt : loadV s2 none (.pointer (some ⟨Bt, 0, none⟩)) = some (.map (some Bm)) := load_g (o := 0) (H3'.cell (B := Bt) (cs := [.map (some Bm)]) (by simp))
      have la : loadV s2 none (.pointer (some ⟨Ba, 0, none⟩)) = some av := load_g (o := 0) (H3'.cell (B := Ba) (cs := [av]) (by simp))
      obtain ⟨s3, dl, H4⟩ := H3'.del (cellI x)
      refine qak (qbb [1, 5, 6, 10, 12, 56, 57] rfl ?_)
      simp only [d17_19, qay, WD_build, WD_fieldAddr, WD_load, WD_mapDel, qba, WD_nil, qam, qas, qaz, qaw, qav, qar, qaq, qap, Nat.testBit, Nat.reduceShiftRight, Nat.reduceAnd, Nat.reduceBneDiff, List.all_nil, List.all_cons, List.filter_nil, List.filter_cons, qad, puT_none, qaf, qab, qaa, qac, List.map_cons, List.map_nil, Nat.reduceEqDiff, Nat.reduceAdd, ↓reduceIte, Bool.not_true, Bool.and_true, Bool.true_or, eq_self, Bool.false_eq_true, true_and, Nat.zero_add, e1, e5, e6, e10, e11, e12, e56, e57, lt, la, A, p0, p1, l0, l1, hbu, hkt, dl]
      clear e1 e5 e6 e10 e11 e12 e56 e57
      intro fr e1 e5 e6 e10 e12 e56 e57
      refine qai ?_
      have H5 : Hold s0 s3 (psF Bm Bg Bt Ba (visF f (cellI x)) gv av [x] all ++ (HP.own 1 ov G.length (G.map (·.1)) :: rowsHP G.reverse)) := H4
      clear H4 H3' dl lt la l0 l1 sa
      refine qau ?_
      refine qak (qan [1, 5, 6, 10, 12, 13, 56, 57] ?_)
      simp only [o17_20, qah, qaj, qad, qae, qab, qaa, qac, Nat.reduceEqDiff, ↓reduceIte, eq_self, e1, e5, e6, e10, e12, e56, e57]
      clear e1 e5 e6 e10 e12 e56 e57
      intro fr e1 e5 e6 e10 e12 e13 e56 e57
      refine qai ?_
      refine qak (loop17b hX ho ⟨by have := (hok x hxa).1; unfold okI at this; omega, hB⟩ hok hN hall hG.closed e1 e5 e6 e10 e12 e13 e56 e57 (Flood.start hxa hTx) (by simpa using hI.take hN hxa) H5 ?_)
      clear e1 e5 e6 e10 e12 e13 e56 e57 fr H5 gv s2 s3
      intro fr s4 gv q f2 e1 e5 e6 e10 e12 e56 e57 hF hI3 H6
      refine qai ?_
      have lg : loadV s4 none (.pointer (some ⟨Bg, 0, none⟩)) = some gv := load_g (o := 0) (H6.cell (B := Bg) (cs := [gv]) (by simp [psF]))
      have hqa : ∀ y ∈ q, y ∈ all := fun y hy => (hF.sub y hy).1
      have hqV : ∀ y ∈ q, VI y := fun y hy => by
        obtain ⟨⟨a1, a2, a3⟩, a4, a5⟩ := hok y (hqa y hy)
        exact ⟨⟨a1, a4.2⟩, a3, a5.2⟩
      have hql : q.length ≤ all.length := len_le_of_sub _ _ hF.nodup hqa
      refine qak (qan [1, 5, 6, 10, 12, 56, 57] ?_)
      simp only [o17_25, WO_call, WO_load, qag, qad, qaf, List.map_cons, List.map_nil, ↓reduceIte, eq_self, e12, lg]
      refine CallK_of (sortSpots hX ho hA38 hqV (by omega) H6.up2) ?_
      rintro _ s5 ⟨q', hp, hs, H8⟩
      simp only [qaj, qad, qab, qaa, qac, Nat.reduceEqDiff, ↓reduceIte, e1, e5, e6, e10, e12, e56, e57]
      clear e1 e5 e6 e10 e12 e56 e57
      intro fr e1 e5 e6 e10 e12 e56 e57
      refine qai ?_
      have lg2 : loadV s5 none (.pointer (some ⟨Bg, 0, none⟩)) = some gv := load_g (o := 0) (H8.cell (B := Bg) (cs := [gv]) (by simp))
      have hgs : ∃ a n c, gv = Value.slice a n c := own_sl (H8.own (List.mem_cons_self ..))
      have hgo : oneCell gv = true := by obtain ⟨a, n, c, rfl⟩ := hgs; rfl
      have hbs : buildSlV s5 1 [.slice none 0 0] 1 [(0, 1, gv)] = some (.slice (some ⟨s5.nxt, 0, none⟩) 1 1, .cells [gv] false) := by obtain ⟨a, n, c, rfl⟩ := hgs; rfl
      obtain ⟨ov', s6, ap, H10⟩ := (H8.up6).push (bytes := 24) (new := [gv]) rfl (by simp [hgo]) (by omega) (by decide) (by omega) (by omega) (by omega)
      have H11 := H10.up3.tail.up5.up5.up5.up5
      refine qan [1, 5, 6, 10, 56, 57] ?_
      simp only [o17_26, WO_append, WO_buildSlice, WO_load, qah, qaj, qag, MemK_some, NewK_some, qad, qaf, qab, qaa, qac, List.map_cons, List.map_nil, Nat.reduceEqDiff, ↓reduceIte, eq_self, Nat.mul_one, e1, e5, e6, e10, e12, e56, e57, lg2, hbs, ap]
      clear e1 e5 e6 e10 e12 e56 e57
      intro fr e1 e5 e6 e10 e56 e57
      refine BlkK_n (qai ?_)
      refine qan [1, 5, 6, 10, 56, 57] ?_
      simp only [o17_27, qao, qah, qax, qaj, qag, qad, qaf, qae, qab, qaa, qac, Nat.reduceEqDiff, ↓reduceIte, eq_self, e1, e5, e6, e10, e56, e57, qal (n := (i : Int) + 1) (by omega) (by omega)]
      clear e1 e5 e6 e10 e56 e57
      intro fr e1 e5 e6 e10 e56 e57
      have hG2 := hG.add hok hN (gv := gv) hF hp hs
      refine LoopK_n (m' := m - 1) (by omega) ⟨i + 1, ov', f2, G ++ [(gv, q')], by omega, by simp; omega, hG2, fun j y hj hy => ?_, fun c n => ?_, e1, e5, e6, e10, e56, by rw [e57]; rfl, ?_⟩
      · by_cases hji : j = i
        · subst hji
          rw [hx] at hy; cases hy
          exact ⟨(gv, q'), by simp, hp.mem_iff.2 hF.hx⟩
        · obtain ⟨g, hg, hyg⟩ := hdone j y (by omega) hy
          exact ⟨g, List.mem_append_left _ hg, hyg⟩
      · rw [hI3 c n]
        constructor
        · rintro ⟨j, y, h1, h2, h3, h4, h5⟩
          refine ⟨j, y, h1, h2, h3, ?_, by simp⟩
          rintro ⟨g, hg, hyg⟩
          rcases List.mem_append.1 hg with hg | hg
          · exact h4 ⟨g, hg, hyg⟩
          · simp at hg; subst hg
            exact h5 (hp.mem_iff.1 hyg)
        · rintro ⟨j, y, h1, h2, h3, h4, _⟩
          exact ⟨j, y, h1, h2, h3, fun ⟨g, hg, hyg⟩ => h4 ⟨g, List.mem_append_left _ hg, hyg⟩, fun hyq => h4 ⟨(gv, q'), by simp, hp.mem_iff.2 hyq⟩⟩
      · have hlq := hp.length_eq
        rw [← hlq] at H11
        simpa [rowsHP] using H11
  · have hil : i = all.length := by omega
    subst hil
    refine LoopK_x (BlkK_e (hQ _ _ ov f G e10 hG (fun x hx => ?_) hGl H))
    obtain ⟨j, hj, e⟩ := List.getElem_of_mem hx
    exact hdone j x hj (by rw [List.getElem?_eq_getElem hj, e])
end Go.Proofs.Ytpphomoijlilfaa.G

/- Peaks: groups sorted. -/
namespace Go.Proofs.Ytpphomoijlilfaa.G
open Go Go.Vam Go.Hang Go.Sort
abbrev Gs := List (Value × List SpI)
def gAt (G : Gs) (i : Nat) : Value × List SpI := (G[i]?).getD ((G[0]?).getD (.slice none 0 0, []))
def hdG (g : Value × List SpI) : SpI := atI g.2 0
def eVg (G : Gs) (i : Nat) : Value := (gAt G i).1
def eCg (G : Gs) (i : Nat) : List Value := [(gAt G i).1]
def ltG (G : Gs) (i j : Nat) : Bool := decide (ltI (hdG (gAt G i)) (hdG (gAt G j)))
theorem gAt_mem {G : Gs} (h : 0 < G.length) (i : Nat) : gAt G i ∈ G := by
  unfold gAt
  cases hi : G[i]? with
  | some g => exact List.mem_of_getElem? hi
  | none =>
    rw [List.getElem?_eq_getElem h]
    exact List.getElem_mem h
theorem gAt_in {G : Gs} {i : Nat} (h : i < G.length) : gAt G i = G[i] := by
  unfold gAt; rw [List.getElem?_eq_getElem h]; rfl
theorem elG {G : Gs} (h : ∀ g ∈ G, ∃ a n c, g.1 = Value.slice a n c) : El 1 none (eVg G) (eCg G) := by
  have hs : ∀ i, ∃ a n c, (gAt G i).1 = Value.slice a n c := fun i => by
    by_cases h0 : 0 < G.length
    · exact h _ (gAt_mem h0 i)
    · have : G = [] := List.eq_nil_of_length_eq_zero (by omega)
      subst this
      exact ⟨_, _, _, rfl⟩
  refine ⟨by decide, fun _ => rfl, fun i => ?_, .inl ⟨rfl, rfl, fun _ => rfl⟩, fun i => ?_⟩
  · obtain ⟨a, n, c, e⟩ := hs i
    show ([(gAt G i).1] : List Value).all oneCell = true
    rw [e]; rfl
  · obtain ⟨a, n, c, e⟩ := hs i
    unfold eVg
    rw [e]
    simp [sameO, sameV, beqV]
theorem swoG (G : Gs) : SWO (ltG G) where
  irrefl x := decide_eq_false (ltI_irr _)
  trans x y z h g := decide_eq_true (ltI_tr _ _ _ (of_decide_eq_true h) (of_decide_eq_true g))
  ntrans x y z h g := by
    have h := of_decide_eq_false h
    have g := of_decide_eq_false g
    refine decide_eq_false ?_
    unfold ltI at *; omega
theorem range_map (G : Gs) : (List.range G.length).map (gAt G) = G := by
  refine List.ext_getElem (by simp) fun i h1 h2 => ?_
  rw [List.getElem_map, List.getElem_range, gAt_in h2]
theorem flatG (G : Gs) (l : List Nat) : l.flatMap (eCg G) = (l.map (gAt G)).map (·.1) := by
  induction l with
  | nil => rfl
  | cons x l ih => rw [List.flatMap_cons, List.map_cons, List.map_cons, ih]; rfl
theorem ahZ_lt2 {x y : SpI} (hx : VI x) (hy : VI y) : decide (ahZ x y < 0) = decide (ltI x y) := ahZ_lt ⟨x, hx⟩ ⟨y, hy⟩
theorem perm_allN {d d' : Array Nat} {n : Nat} (hn : d.size = n) (h : PermIn 0 n d d') : d'.toList.Perm d.toList ∧ d'.size = n := by
  obtain ⟨h1, _, h3⟩ := h
  have e1 : d'.extract 0 n = d' := by rw [← hn, ← h1]; simp
  have e2 : d.extract 0 n = d := by rw [← hn]; simp
  rw [e1, e2] at h3
  exact ⟨h3, h1.trans hn⟩
theorem run40 {X : Ctx} (hX : X.fns = fnsOf Try.prog) (ho : ∀ f args, f ≠ 15 ∧ f ≠ 38 → X.orc f args = none) (hA38 : ∀ x y : SpI, X.orc 38 [sI x, sI y] = some (.int .i64 (ahZ x y))) {s : Mm} {v w : Value} {q p : List SpI} (a : SlC s 3 v q.length (q.flatMap eI)) (b : SlC s 3 w p.length (p.flatMap eI)) (hq : 0 < q.length) (hp : 0 < p.length) :
    CallP X 40 [v, w] s (fun r s' => r = .int .i64 (ahZ (atI q 0) (atI p 0)) ∧ s = s') := by
  obtain ⟨A1, L1⟩ := spots_at a hq (j := 0) rfl
  obtain ⟨A2, L2⟩ := spots_at b hp (j := 0) rfl
  refine CallP_of (hX ▸ ir40_eq) (ho _ _ (by decide)) (Nat.le_of_ble_eq_true rfl) ?_
  refine qak (qan [0, 1] ?_)
  simp only [o40_0, qah, qaj, qad, frame_nil, qbc, qae, qab, qaa, qac, Nat.reduceEqDiff, Nat.reduceAdd, ↓reduceIte, eq_self, Nat.zero_add]
  intro fr e0 e1
  refine qai ?_
  refine qak (qbb [4] rfl ?_)
  simp only [d40_1, qay, WD_call, WD_load, qba, qam, qas, qaw, qar, qap, qad, qaf, qae, List.map_cons, List.map_nil, Nat.reduceEqDiff, Nat.reduceAdd, ↓reduceIte, eq_self, true_and, Nat.zero_add, Nat.zero_mul, e0, e1, A1, L1, A2, L2, Nat.zero_mul]
  refine DCallK_of rfl (show CallP X 38 [sI (atI q 0), sI (atI p 0)] s (fun r s' => r = .int .i64 (ahZ (atI q 0) (atI p 0)) ∧ s = s') from ⟨_, _, Call_orc (hA38 _ _), rfl, rfl⟩) ?_
  rintro _ _ ⟨rfl, rfl⟩
  simp only [qba, WD_nil, qam, qar, qaq, qap, Nat.testBit, Nat.reduceShiftRight, Nat.reduceAnd, Nat.reduceBneDiff, List.all_nil, List.all_cons, List.filter_nil, List.filter_cons, qad, qaf, qab, qaa, qac, Nat.reduceAdd, ↓reduceIte, Bool.not_true, Bool.and_true, Bool.true_or, eq_self, Bool.false_eq_true, true_and]
  clear e0 e1
  intro fr e4
  refine qai ?_
  exact W_ret (Ret1 e4 ⟨rfl, rfl⟩)
theorem sortGroups {X : Ctx} (hX : X.fns = fnsOf Try.prog) (ho : ∀ f args, f ≠ 15 ∧ f ≠ 38 → X.orc f args = none) (hA38 : ∀ x y : SpI, X.orc 38 [sI x, sI y] = some (.int .i64 (ahZ x y))) {s0 s : Mm} {l : List HP} {v : Value} {G : Gs} (hV : ∀ g ∈ G, g.2 ≠ [] ∧ VI (hdG g)) (hs : ∀ g ∈ G, ∃ a n c, g.1 = Value.slice a n c) (hl : G.length ≤ 5864062014634)
    (hr : ∀ P ∈ rowsHP G, P ∈ l) (H : Hold s0 s (HP.own 1 v G.length (G.map (·.1)) :: l)) :
    CallP X 39 [v, .func (.func 40) #[] #[]] s (fun _ s' => ∃ G' : Gs, G'.Perm G ∧ G'.Pairwise (fun a b => ¬ ltI (hdG b) (hdG a)) ∧ Hold s0 s' (HP.own 1 v G.length (G'.map (·.1)) :: l)) := by
  have hf : flE (eCg G) (List.range G.length).toArray = G.map (·.1) := by
    show (List.range G.length).flatMap (eCg G) = _
    rw [flatG, range_map]
  rw [← hf] at H
  have hsz : (List.range G.length).toArray.size = G.length := by simp
  obtain ⟨r, s', h1, d', h2, h3, h4⟩ := L.run39 hX ho (eV := eVg G) (eC := eCg G) (elG hs) (lt := ltG G) (C := 40) (s0 := s0) (L0 := rowsHP G) (Q := 0 < G.length)
    (fun s l' x y hH hL hq => by
      have rd : ∀ i, (gAt G i).2 ≠ [] ∧ VI (hdG (gAt G i)) ∧ SlC s 3 (gAt G i).1 (gAt G i).2.length ((gAt G i).2.flatMap eI) := fun i => by
        have hm := gAt_mem hq i
        exact ⟨(hV _ hm).1, (hV _ hm).2, (hH.own (hL _ (List.mem_map.2 ⟨_, hm, rfl⟩))).slc⟩
      obtain ⟨a1, a2, a3⟩ := rd x
      obtain ⟨b1, b2, b3⟩ := rd y
      obtain ⟨r, s', g1, g2, g3⟩ := run40 hX ho hA38 a3 b3 (List.length_pos_iff.2 a1) (List.length_pos_iff.2 b1)
      exact ⟨r, s', g1, _, g2, ahZ_lt2 a2 b2, g3⟩) (swoG G) (s := s) (l := l) hr (fun h => h) H (by omega)
  obtain ⟨p1, p2⟩ := perm_allN hsz h2
  refine ⟨r, s', h1, d'.toList.map (gAt G), ?_, ?_, ?_⟩
  · have := p1.map (gAt G)
    rw [show (List.range G.length).toArray.toList = List.range G.length from rfl, range_map] at this
    exact this
  · rw [List.pairwise_map, List.pairwise_iff_getElem]
    intro i j hi hj hij
    have := h3 i j (Nat.zero_le _) hij (by rw [← p2]; simpa using hj)
    rw [get_list (i := i) (by simpa using hi), get_list (i := j) (by simpa using hj)] at this
    exact of_decide_eq_false this
  · rw [← flatG]; exact h4
end Go.Proofs.Ytpphomoijlilfaa.G

/- Peaks: Groups, walked whole. -/
namespace Go.Proofs.Ytpphomoijlilfaa.G
open Go Go.Vam Go.Hang
theorem head_of {q : List SpI} (h : q ≠ []) : q.head? = some (atI q 0) ∧ atI q 0 ∈ q := by
  cases q with
  | nil => exact absurd rfl h
  | cons x q => exact ⟨rfl, by unfold atI; simp⟩
theorem parts_of {all : List SpI} {B : Int} {G G' : Gs} (hN : (all.map cellI).Nodup) (hG : GOk all B G) (hev : ∀ x ∈ all, TG G x) (hp : G'.Perm G) (hs : G'.Pairwise (fun a b => ¬ ltI (hdG b) (hdG a))) : Parts all (adj B) ltI (G'.map (·.2)) := by
  have mem : ∀ g ∈ G'.map (·.2), ∃ g0 ∈ G, g0.2 = g := fun g hg => by
    obtain ⟨g0, h0, e⟩ := List.mem_map.1 hg
    exact ⟨g0, hp.mem_iff.1 h0, e⟩
  refine ⟨fun g hg => ?_, fun g hg => ?_, fun g hg => ?_, fun x hx => ?_, ?_⟩
  · obtain ⟨g0, h0, rfl⟩ := mem g hg; exact hG.some g0 h0
  · obtain ⟨g0, h0, rfl⟩ := mem g hg; exact hG.sort g0 h0
  · obtain ⟨g0, h0, rfl⟩ := mem g hg; exact hG.whole g0 h0
  · obtain ⟨g, hg, hxg⟩ := hev x hx
    exact ⟨g.2, List.mem_map.2 ⟨g, hp.mem_iff.2 hg, rfl⟩, hxg⟩
  · have ha : G'.Pairwise fun a b => ∀ x ∈ a.2, x ∉ b.2 := (hp.pairwise_iff (fun {x y} h z hz hz' => h z hz' hz)).2 hG.apart
    rw [List.pairwise_map]
    refine (hs.and ha).imp_of_mem ?_
    rintro a b hma hmb ⟨h1, h2⟩
    have na := hG.some a (hp.mem_iff.1 hma)
    have nb := hG.some b (hp.mem_iff.1 hmb)
    obtain ⟨a1, a2⟩ := head_of na
    obtain ⟨b1, b2⟩ := head_of nb
    refine ⟨_, _, a1, b1, ltI_tri (fun e => ?_) h1⟩
    have ia := ((hG.whole a (hp.mem_iff.1 hma) _ a2 _).1 a2).1
    have ib := ((hG.whole b (hp.mem_iff.1 hmb) _ b2 _).1 b2).1
    have := same_cell hN ia ib e
    exact h2 _ a2 (by rw [this]; exact b2)
theorem rows_mem {G : Gs} {P : HP} (h : P ∈ rowsHP G) : P ∈ rowsHP G.reverse := by
  obtain ⟨g, hg, e⟩ := List.mem_map.1 h
  exact List.mem_map.2 ⟨g, by simpa using hg, e⟩
set_option maxHeartbeats 4000000 in
theorem run17 {X : Ctx} (hX : X.fns = fnsOf Try.prog) (ho : ∀ f args, f ≠ 15 ∧ f ≠ 38 → X.orc f args = none) (hA38 : ∀ x y : SpI, X.orc 38 [sI x, sI y] = some (.int .i64 (ahZ x y))) {s0 s : Mm} {l : List HP} {v : Value} {L : List SpI} {B : Int} (H0 : Hold s0 s l) (a : SlC s 3 v L.length (L.flatMap eI)) (hL : L.length ≤ 5864062014634) (hB : B ≤ 9223372036854775807) (hw : ∀ x ∈ L, wI x) :
    CallP X 17 [v, .int .i64 B] s (fun r s' => ∃ G : Gs, Parts (ddP B L []) (adj B) ltI (G.map (·.2)) ∧ (∀ g ∈ G, ∃ a n c, g.1 = Value.slice a n c) ∧ Hold s0 s' (HP.own 1 r G.length (G.map (·.1)) :: (rowsHP G ++ l))) := by
  have hN : ((ddP B L []).map cellI).Nodup := ddP_nodup L [] (by simp)
  have hfirst : ∀ x ∈ ddP B L [], x ∈ L ∧ okI B x := fun x hx => by
    rcases (ddP_mem x L []).1 hx with h | ⟨_, p, q, h, _⟩
    · simp at h
    · have : x ∈ L.filter (fun x => decide (okI B x)) := by rw [h]; simp
      obtain ⟨h1, h2⟩ := List.mem_filter.1 this
      exact ⟨h1, of_decide_eq_true h2⟩
  have hok : ∀ x ∈ ddP B L [], okI B x ∧ wI x := fun x hx => ⟨(hfirst x hx).2, hw x (hfirst x hx).1⟩
  have hall : (ddP B L []).length ≤ 5864062014634 := by
    have h1 : (ddP B L []).Nodup := List.Pairwise.of_map cellI (fun a b h e => h (congrArg cellI e)) hN
    have := len_le_of_sub _ _ h1 (fun x hx => (hfirst x hx).1)
    omega
  have H1 := ((Hold.refl s).newMap).new [.map none]
  have st : storeV (newAt (newAt s (.map [] 0)) (.cells [.map none] false)) 1 (.pointer (some ⟨s.nxt + 1, 0, none⟩)) (.map (some s.nxt)) = some (undefV, setBlk (newAt (newAt s (.map [] 0)) (.cells [.map none] false)) (s.nxt + 1) (.cells [.map (some s.nxt)] false)) :=
    store_g (cs := [.map none]) (H1.cell (List.mem_cons_self ..)) rfl Nat.zero_lt_one
  have H2 : Hold s (setBlk (newAt (newAt s (.map [] 0)) (.cells [.map none] false)) (s.nxt + 1) (.cells [.map (some s.nxt)] false)) [HP.cell (s.nxt + 1) [.map (some s.nxt)], HP.map s.nxt (fun _ => none)] := H1.setc (cs' := [.map (some s.nxt)])
  refine CallP_of (hX ▸ ir17_eq) (ho _ _ (by decide)) (Nat.le_of_ble_eq_true rfl) ?_
  refine qak (qan [0, 1] ?_)
  simp only [o17_0, qah, qaj, qad, frame_nil, qbc, qae, qab, qaa, qac, Nat.reduceEqDiff, Nat.reduceAdd, ↓reduceIte, eq_self, Nat.zero_add]
  intro fr e0 e1
  refine qai ?_
  refine qak (qan [0, 1, 5] ?_)
  simp only [o17_1, WO_alloc, nxt_new, WO_makeMap, WO_store, qaj, MemK_some, qad, puT_none, qaf, qab, qaa, qac, Nat.reduceEqDiff, ↓reduceIte, eq_self, e0, e1, st]
  clear e0 e1
  intro fr e0 e1 e5
  refine qai ?_
  generalize setBlk (newAt (newAt s (.map [] 0)) (.cells [.map none] false)) (s.nxt + 1) (.cells [.map (some s.nxt)] false) = s1 at H2 ⊢
  generalize s.nxt + 1 = Bt at H2 e5
  generalize s.nxt = Bm at H2
  clear st H1
  have H3 : Hold s (newAt s1 (.cells [.slice none 0 0] false)) [HP.cell s1.nxt [.slice none 0 0], HP.cell Bt [.map (some Bm)], HP.map Bm (fun _ => none)] := H2.new [.slice none 0 0]
  have H4 := (H3.nil 3).up1.up3
  refine qak (qan [0, 1, 5, 6] ?_)
  simp only [o17_2, WO_alloc, qaj, qad, qab, qaa, qac, Nat.reduceEqDiff, ↓reduceIte, eq_self, e0, e1, e5]
  clear e0 e1 e5
  intro fr e0 e1 e5 e6
  refine qai ?_
  generalize newAt s1 (.cells [.slice none 0 0] false) = s2 at H4 ⊢
  generalize s1.nxt = Ba at H4 e6
  clear H3 H2
  refine qau ?_
  refine qak (qan [1, 5, 6, 15, 16, 17] ?_)
  simp only [o17_3, WO_bu, qah, qaj, qag, qad, qaf, qae, qab, qaa, qac, List.map_cons, List.map_nil, Nat.reduceEqDiff, ↓reduceIte, eq_self, e0, e1, e5, e6, a.len]
  clear e0 e1 e5 e6
  intro fr e1 e5 e6 e15 e16 e17
  refine qai ?_
  refine qak (loop17a hX ho a hL e1 e5 e6 e15 e16 e17 H4 ?_)
  clear e1 e5 e6 e15 e16 e17 fr H4
  intro fr s3 av f e1 e5 e6 hM H
  refine qai ?_
  refine qak (qan [1, 5, 6, 10] ?_)
  simp only [o17_12, qah, qaj, qad, qae, qab, qaa, qac, Nat.reduceEqDiff, ↓reduceIte, eq_self, e1, e5, e6]
  clear e1 e5 e6
  intro fr e1 e5 e6 e10
  refine qai ?_
  have la : loadV s3 none (.pointer (some ⟨Ba, 0, none⟩)) = some av := load_g (o := 0) (H.cell (B := Ba) (cs := [av]) (by simp))
  have hlen := (H.own (sz := 3) (v := av) (n := (ddP B L []).length) (cs := (ddP B L []).flatMap eI) (by simp)).slc.len
  refine qau ?_
  refine qak (qan [1, 5, 6, 10, 56, 57] ?_)
  simp only [o17_13, WO_bu, WO_load, qah, qaj, qag, qad, qaf, qae, qab, qaa, qac, List.map_cons, List.map_nil, Nat.reduceEqDiff, ↓reduceIte, eq_self, e1, e5, e6, e10, la, hlen]
  clear e1 e5 e6 e10
  intro fr e1 e5 e6 e10 e56 e57
  refine qai ?_
  have hI : FI (ddP B L []) (TG []) f [] := fun c n => by
    rw [hM c n]
    constructor
    · rintro ⟨i, x, h1, h2, h3⟩
      exact ⟨i, x, h1, h2, h3, fun ⟨g, hg, _⟩ => by simp at hg, by simp⟩
    · rintro ⟨i, x, h1, h2, h3, _⟩
      exact ⟨i, x, h1, h2, h3⟩
  have H5 := (H.nil 1).up3.up3.up4.up4
  refine qak (loop17c hX ho hA38 hB hok hN hall e1 e5 e6 e10 e56 e57 hI H5 ?_)
  clear e1 e5 e6 e10 e56 e57 fr H5 H la hlen
  intro fr s4 ov f2 G e10 hG hev hGl H6
  refine qai ?_
  have hsl : ∀ g ∈ G, ∃ a n c, g.1 = Value.slice a n c := fun g hg => own_sl (H6.own (sz := 3) (v := g.1) (n := g.2.length) (cs := g.2.flatMap eI) (by
    have := rows_mem (List.mem_map.2 ⟨g, hg, rfl⟩ : HP.own 3 g.1 g.2.length (g.2.flatMap eI) ∈ rowsHP G)
    simp [this]))
  have hV : ∀ g ∈ G, g.2 ≠ [] ∧ VI (hdG g) := fun g hg => by
    have hne := hG.some g hg
    refine ⟨hne, ?_⟩
    obtain ⟨_, h2⟩ := head_of hne
    obtain ⟨⟨a1, a2, a3⟩, a4, a5⟩ := hok _ ((hG.whole g hg _ h2 _).1 h2).1
    exact ⟨⟨a1, a4.2⟩, a3, a5.2⟩
  refine qak (qan [10] ?_)
  simp only [o17_28, WO_call, qah, qad, qaf, List.map_cons, List.map_nil, ↓reduceIte, eq_self, e10]
  refine CallK_of (sortGroups hX ho hA38 hV hsl (by omega) (fun P hP => by simp [rows_mem hP]) H6.up4) ?_
  rintro _ s5 ⟨G', hp, hso, H7⟩
  simp only [qaj, qad, qab, qaa, qac, Nat.reduceEqDiff, ↓reduceIte, e10]
  clear e10
  intro fr e10
  refine qai ?_
  refine qak (qan [4] ?_)
  simp only [o17_29, qah, qaj, qad, qaf, qab, qaa, qac, ↓reduceIte, eq_self, e10]
  clear e10
  intro fr e4
  refine qai ?_
  have H8 := H7.up1.tail.up1.tail.up1.tail.up1.tail
  have hlq := hp.length_eq
  rw [← hlq] at H8
  have H9 : Hold s s5 (HP.own 1 ov G'.length (G'.map (·.1)) :: rowsHP G') := H8.perm (List.Perm.cons _ (((List.reverse_perm G).trans hp.symm).map _))
  exact W_ret (Ret1 e4 ⟨G', parts_of hN hG hev hp hso, fun g hg => hsl g (hp.mem_iff.1 hg), H0.app H9⟩)
end Go.Proofs.Ytpphomoijlilfaa.G
