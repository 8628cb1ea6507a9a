/- Peaks: the document's order, and its search. -/
import Derived.Test.YtpphomoijlilfaaGB
import Derived.Test.YtpphomoijlilfaaRfIr
namespace Go.Proofs.Ytpphomoijlilfaa.G
open Go Go.Vam Go.Hang
theorem ltI_dec (x y : SpI) : decide (ltI x y) = (decide (x.1 < y.1) || (decide (x.1 = y.1) && decide (x.2.1 < y.2.1))) := by
  rw [Bool.eq_iff_iff, decide_eq_true_iff]
  unfold ltI
  simp
def lessN (L : List SpI) (x : SpI) : Nat := (L.filter fun y => decide (ltI y x)).length
theorem lessN_le (L : List SpI) (x : SpI) : lessN L x ≤ L.length := List.length_filter_le ..
theorem lessN_at {L : List SpI} (hs : L.Pairwise ltI) (x : SpI) {i : Nat} (hi : i < L.length) : ltI L[i] x ↔ i < lessN L x := by
  induction L generalizing i with
  | nil => simp at hi
  | cons y L ih =>
    rw [List.pairwise_cons] at hs
    unfold lessN
    by_cases hy : ltI y x
    · have hf : (y :: L).filter (fun z => decide (ltI z x)) = y :: L.filter (fun z => decide (ltI z x)) := List.filter_cons_of_pos (by simpa using hy)
      rw [hf, List.length_cons]
      cases i with
      | zero => simp [hy]
      | succ i =>
        have := ih hs.2 (i := i) (by simpa using hi)
        unfold lessN at this
        rw [List.getElem_cons_succ, this]
        omega
    · have hf : (y :: L).filter (fun z => decide (ltI z x)) = L.filter (fun z => decide (ltI z x)) := List.filter_cons_of_neg (by simpa using hy)
      rw [hf]
      have h0 : L.filter (fun z => decide (ltI z x)) = [] := by
        rw [List.filter_eq_nil_iff]
        intro z hz
        have hyz := hs.1 z hz
        have : ¬ ltI z x := fun h => hy (ltI_tr _ _ _ hyz h)
        simpa using this
      rw [h0]
      cases i with
      | zero => simp [hy]
      | succ i =>
        have hi' : i < L.length := by simpa using hi
        have : ¬ ltI L[i] x := fun h => hy (ltI_tr _ _ _ (hs.1 _ (List.getElem_mem hi')) h)
        simp [this]
theorem run53i {X : Ctx} (hX : X.fns = fnsOf Try.prog) (ho : ∀ f args, f ≠ 15 ∧ f ≠ 38 → X.orc f args = none) {s : Mm} {x y : SpI} : CallP X 53 [sI x, sI y] s (fun r s' => r = .bool (decide (ltI x y)) ∧ Same s s' (fun _ => False)) := by
  have hbx : ∀ x : SpI, (sI x).cells.toList = eI x := fun _ => rfl
  have hd := ltI_dec x y
  refine CallP_of (hX ▸ ir53_eq) (ho _ _ (by decide)) (Nat.le_of_ble_eq_true rfl) ?_
  refine qak (qan [2, 3] ?_)
  simp only [o53_0, WO_box, nxt_new, qah, qaj, qad, frame_nil, qbc, qaf, qae, qab, qaa, qac, Nat.reduceEqDiff, Nat.reduceAdd, ↓reduceIte, eq_self, Nat.zero_add, hbx]
  intro fr e2 e3
  refine qai ?_
  have H := ((Hold.refl s).new (eI x)).new (eI y)
  have hx : (newAt s (.cells (eI x) false)).nxt = s.nxt + 1 := rfl
  rw [hx] at H
  generalize newAt (newAt s (.cells (eI x) false)) (.cells (eI y) false) = s1 at H ⊢
  have x0 : loadV s1 none (.pointer (some ⟨s.nxt, 0, none⟩)) = some (.int .i64 x.1) := load_g (o := 0) (H.cell (cs := eI x) (by simp))
  have x1 : loadV s1 none (.pointer (some ⟨s.nxt, 1, none⟩)) = some (.int .i64 x.2.1) := load_g (o := 1) (H.cell (cs := eI x) (by simp))
  have y0 : loadV s1 none (.pointer (some ⟨s.nxt + 1, 0, none⟩)) = some (.int .i64 y.1) := load_g (o := 0) (H.cell (cs := eI y) (by simp))
  have y1 : loadV s1 none (.pointer (some ⟨s.nxt + 1, 1, none⟩)) = some (.int .i64 y.2.1) := load_g (o := 1) (H.cell (cs := eI y) (by simp))
  cases h1 : decide (x.1 < y.1) with
  | true =>
    refine qak (qan [4] ?_)
    simp only [o53_1, qao, WO_fieldAddr, fieldAddr_p, WO_load, qah, WO_pick, pick_b, bin_lss, qaj, qag, WO_guard, want_v, wantB_f, qad, qaf, qae, qab, qaa, qac, Nat.reduceEqDiff, ↓reduceIte, Bool.not_true, eq_self, Bool.false_eq_true, Nat.zero_add, Nat.add_zero, e2, e3, x0, y0, h1]
    clear e2 e3
    intro fr e4
    refine qai ?_
    exact W_ret (Ret1 e4 ⟨by rw [hd, h1]; rfl, H.same⟩)
  | false =>
    cases h2 : decide (x.1 = y.1) with
    | false =>
      refine qak (qan [4] ?_)
      simp only [o53_1, qao, WO_fieldAddr, fieldAddr_p, WO_load, qah, WO_pick, pick_b, bin_eql, bin_lss, qaj, qag, WO_guard, want_v, wantB_t, wantB_f, qad, qaf, qae, qab, qaa, qac, Nat.reduceEqDiff, ↓reduceIte, Bool.not_false, eq_self, Bool.false_eq_true, Nat.add_zero, e2, e3, x0, y0, h1, h2]
      clear e2 e3
      intro fr e4
      refine qai ?_
      exact W_ret (Ret1 e4 ⟨by rw [hd, h1, h2]; rfl, H.same⟩)
    | true =>
      refine qak (qan [4] ?_)
      simp only [o53_1, qao, WO_fieldAddr, fieldAddr_p, WO_load, qah, WO_pick, pick_b, bin_eql, bin_lss, qaj, qag, WO_guard, want_v, wantB_t, wantB_f, qad, qaf, qae, qab, qaa, qac, Nat.reduceEqDiff, ↓reduceIte, Bool.not_false, eq_self, Bool.false_eq_true, Nat.zero_add, Nat.add_zero, e2, e3, x0, y0, h1, h2, x1, y1]
      clear e2 e3
      intro fr e4
      refine qai ?_
      exact W_ret (Ret1 e4 ⟨by rw [hd, h1, h2]; simp, H.same⟩)
end Go.Proofs.Ytpphomoijlilfaa.G

/- Peaks: the document's search, walked. -/
namespace Go.Proofs.Ytpphomoijlilfaa.G
open Go Go.Vam Go.Hang
def FindR (L : List SpI) (c : Int × Int) (z : Int) : Prop := (z = -1 ∧ ∀ y ∈ L, cellI y ≠ c) ∨ ∃ (i : Nat) (y : SpI), z = (i : Nat) ∧ L[i]? = some y ∧ cellI y = c
theorem find_none {L : List SpI} (hs : L.Pairwise ltI) {x : SpI} (h : ∀ y, L[lessN L x]? = some y → cellI y ≠ cellI x) : ∀ y ∈ L, cellI y ≠ cellI x := by
  intro y hy e
  obtain ⟨i, hi, ei⟩ := List.getElem_of_mem hy
  have h1 : ¬ i < lessN L x := fun hlt => by
    have := (lessN_at hs x hi).2 hlt
    rw [ei] at this
    unfold ltI at this
    simp only [cellI, Prod.mk.injEq] at e
    omega
  by_cases h2 : i = lessN L x
  · exact h y (by rw [← h2, List.getElem?_eq_getElem hi, ei]) e
  · have h3 : lessN L x < i := by omega
    have h4 := (List.pairwise_iff_getElem.1 hs) (lessN L x) i (by omega) hi h3
    have h5 : ¬ ltI L[lessN L x] x := fun h => by
      have := (lessN_at hs x (by omega : lessN L x < L.length)).1 h
      omega
    rw [ei] at h4
    simp only [cellI, Prod.mk.injEq] at e
    unfold ltI at h4 h5
    omega
def findB (L : List SpI) (n : Nat) (b g : Int) : Bool := match L[n]? with
  | some y => decide (y.1 = b) && decide (y.2.1 = g)
  | none => false
set_option maxHeartbeats 2000000 in
theorem run58 {X : Ctx} (hX : X.fns = fnsOf Try.prog) (ho : ∀ f args, f ≠ 15 ∧ f ≠ 38 → X.orc f args = none) {s : Mm} {v : Value} {L : List SpI} {b g : Int} (a : SlC s 3 v L.length (L.flatMap eI)) (hL : L.length ≤ 5864062014634) (hs : L.Pairwise ltI) :
    CallP X 58 [v, .int .i64 b, .int .i64 g] s (fun r s' => ∃ z, r = .int .i64 z ∧ FindR L (b, g) z ∧ Same s s' (fun _ => False)) := by
  obtain ⟨x, hx⟩ : ∃ x : SpI, x = (b, g, 0) := ⟨_, rfl⟩
  have hcx : cellI x = (b, g) := by rw [hx]; rfl
  have hx1 : x.1 = b := by rw [hx]
  have hx2 : x.2.1 = g := by rw [hx]
  have hbu : buildV [.int .i64 0, .int .i64 0, .float .f64 0] [(0, 1, .int .i64 b), (1, 1, .int .i64 g)] = some (sI x) := by rw [hx]; rfl
  have H1 := (Hold.refl s).new z3
  have st : storeV (newAt s (.cells [.int .i64 0, .int .i64 0, .float .f64 0] false)) 3 (.pointer (some ⟨s.nxt, 0, none⟩)) (sI x) = some (undefV, setBlk (newAt s (.cells [.int .i64 0, .int .i64 0, .float .f64 0] false)) s.nxt (.cells (eI x) false)) := store_all (n := 3) (vs := eI x) (H1.cell (List.mem_cons_self ..)) rfl rfl rfl
  have H2 : Hold s (setBlk (newAt s (.cells [.int .i64 0, .int .i64 0, .float .f64 0] false)) s.nxt (.cells (eI x) false)) [HP.cell s.nxt (eI x)] := H1.setc (cs' := eI x)
  refine CallP_of (hX ▸ ir58_eq) (ho _ _ (by decide)) (Nat.le_of_ble_eq_true rfl) ?_
  refine qak (qan [0, 1, 2] ?_)
  simp only [o58_0, qah, qaj, qad, frame_nil, qbc, qae, qab, qaa, qac, Nat.reduceEqDiff, Nat.reduceAdd, ↓reduceIte, eq_self, Nat.zero_add]
  intro fr e0 e1 e2
  refine qai ?_
  refine qak (qan [0, 1, 2, 7] ?_)
  simp only [o58_1, WO_alloc, WO_build, qah, WO_store, qaj, qag, MemK_some, qad, puT_none, qaf, qab, qaa, qac, List.map_cons, List.map_nil, Nat.reduceEqDiff, ↓reduceIte, eq_self, e0, e1, e2, hbu, st]
  clear e0 e1 e2
  intro fr e0 e1 e2 e7
  refine qai ?_
  generalize setBlk (newAt s (.cells [.int .i64 0, .int .i64 0, .float .f64 0] false)) s.nxt (.cells (eI x) false) = s1 at H2 ⊢
  generalize s.nxt = Bs at H2 e7
  clear st H1 hbu
  refine qak (qan [0, 1, 2, 7, 8] ?_)
  simp only [o58_2, qah, qaj, qad, qae, qab, qaa, qac, Nat.reduceEqDiff, ↓reduceIte, eq_self, e0, e1, e2, e7]
  clear e0 e1 e2 e7
  intro fr e0 e1 e2 e7 e8
  refine qai ?_
  refine qak (qan [0, 1, 2, 7, 8, 9] ?_)
  simp only [o58_3, WO_bu, qah, qaj, qag, qad, qaf, qab, qaa, qac, List.map_cons, List.map_nil, Nat.reduceEqDiff, ↓reduceIte, eq_self, e0, e1, e2, e7, e8, a.len]
  clear e0 e1 e2 e7 e8
  intro fr e0 e1 e2 e7 e8 e9
  refine qai ?_
  refine qak (qat (W_loop (fun m fr s2 => ∃ lo hi : Nat, hi - lo = m ∧ lo ≤ lessN L x ∧ lessN L x ≤ hi ∧ hi ≤ L.length ∧ geT fr 0 = v ∧ geT fr 1 = .int .i64 b ∧ geT fr 2 = .int .i64 g ∧ geT fr 7 = .pointer (some ⟨Bs, 0, none⟩) ∧ geT fr 8 = .int .i64 (lo : Nat) ∧ geT fr 9 = .int .i64 (hi : Nat) ∧
    Hold s s2 [HP.cell Bs (eI x)]) L.length ⟨0, L.length, by omega, Nat.zero_le _, lessN_le L x, Nat.le_refl _, e0, e1, e2, e7, e8, e9, H2⟩ ?_))
  clear e0 e1 e2 e7 e8 e9 fr H2 s1
  rintro m fr s2 ⟨lo, hi, hm, h1, h2, h3, e0, e1, e2, e7, e8, e9, H⟩
  refine qau ?_
  refine qak (qan [0, 1, 2, 7, 8, 9, 18] ?_)
  simp only [o58_5, qao, qah, bin_lss, qaj, qag, qad, qaf, qab, qaa, qac, Nat.reduceEqDiff, ↓reduceIte, eq_self, e0, e1, e2, e7, e8, e9]
  clear e0 e1 e2 e7 e8 e9
  intro fr e0 e1 e2 e7 e8 e9 e18
  refine qai ?_
  refine W_while e18 (fun hlt => ?_) (fun hlt => ?_)
  · obtain ⟨mid, hmid⟩ : ∃ mid : Nat, mid = lo + (hi - lo) / 2 := ⟨_, rfl⟩
    have i0 : ((hi : Nat) : Int) - ((lo : Nat) : Int) = ((hi - lo : Nat) : Int) := by omega
    have i1 : ((hi - lo : Nat) : Int).tdiv 2 = (((hi - lo) / 2 : Nat) : Int) := by rw [Int.tdiv_eq_ediv_of_nonneg (by omega)]; omega
    have i2 : ((lo : Nat) : Int) + (((hi - lo) / 2 : Nat) : Int) = ((mid : Nat) : Int) := by omega
    have w0 := qal (n := ((hi - lo : Nat) : Int)) (by omega) (by omega)
    have w1 := qal (n := (((hi - lo) / 2 : Nat) : Int)) (by omega) (by omega)
    have w2 := qal (n := ((mid : Nat) : Int)) (by omega) (by omega)
    have hml : mid < L.length := by omega
    have a2 := a.same H.same (fun _ _ h => h)
    obtain ⟨A, Ld⟩ := spots_at a2 hml rfl
    have lx : loadV s2 (some 3) (.pointer (some ⟨Bs, 0, none⟩)) = some (sI x) := (loadn_all (H.cell (List.mem_cons_self ..)) rfl).trans rfl
    refine qat ?_
    refine qak (qan [0, 1, 2, 7, 8, 9, 10] ?_)
    simp only [o58_6, qao, qah, qax, bin_quo, qbd, qaj, qag, qad, qaf, qae, qab, qaa, qac, Nat.reduceEqDiff, ↓reduceIte, Int.reduceEq, eq_self, e0, e1, e2, e7, e8, e9, i0, w0, i1, w1, i2, w2]
    clear e0 e1 e2 e7 e8 e9 e18
    intro fr e0 e1 e2 e7 e8 e9 e10
    refine qai ?_
    refine qak (qbb [0, 1, 2, 7, 8, 9, 10, 30] rfl ?_)
    simp only [d58_7, qay, WD_call, WD_load, qba, qam, qas, qaw, qar, qap, qad, qaf, List.map_cons, List.map_nil, Nat.reduceEqDiff, Nat.reduceAdd, ↓reduceIte, eq_self, true_and, Nat.zero_add, e0, e7, e10, A, Ld, lx]
    refine DCallK_of rfl (run53i hX ho) ?_
    rintro _ s3 ⟨rfl, hs3⟩
    have H' := H.keep hs3
    simp only [WD_nil, qar, qaq, qap, Nat.testBit, Nat.reduceShiftRight, Nat.reduceAnd, Nat.reduceBneDiff, List.all_nil, List.all_cons, List.filter_nil, List.filter_cons, qad, qab, qaa, qac, Nat.reduceEqDiff, Nat.reduceAdd, ↓reduceIte, Bool.not_true, Bool.and_true, Bool.true_or, eq_self, Bool.false_eq_true, true_and, e0, e1, e2, e7, e8, e9, e10]
    clear e0 e1 e2 e7 e8 e9 e10
    intro fr e0 e1 e2 e7 e8 e9 e10 e30
    refine qai ?_
    have hat : atI L mid = L[mid] := atI_eq hml
    have hiff := lessN_at hs x hml
    refine W_if e30 (fun hl => ?_) (fun hl => ?_)
    · rw [hat] at hl
      have := hiff.1 hl
      refine qan [0, 1, 2, 7, 8, 9] ?_
      simp only [o58_8, qao, qah, qax, qaj, qag, qad, qaf, qae, qab, qaa, qac, Nat.reduceEqDiff, ↓reduceIte, eq_self, e0, e1, e2, e7, e9, e10, qal (n := (mid : Int) + 1) (by omega) (by omega)]
      clear e0 e1 e2 e7 e8 e9 e10 e30
      intro fr e0 e1 e2 e7 e8 e9
      exact BlkK_n (LoopK_n (m' := hi - (mid + 1)) (by omega) ⟨mid + 1, hi, rfl, by omega, h2, h3, e0, e1, e2, e7, by rw [e8]; rfl, e9, H'⟩)
    · rw [hat] at hl
      have : ¬ mid < lessN L x := fun h => hl (hiff.2 h)
      refine qan [0, 1, 2, 7, 8, 9] ?_
      simp only [o58_9, qah, qaj, qad, qaf, qab, qaa, qac, Nat.reduceEqDiff, ↓reduceIte, eq_self, e0, e1, e2, e7, e8, e10]
      clear e0 e1 e2 e7 e8 e9 e10 e30
      intro fr e0 e1 e2 e7 e8 e9
      exact BlkK_n (LoopK_n (m' := mid - lo) (by omega) ⟨lo, mid, rfl, h1, by omega, by omega, e0, e1, e2, e7, e8, e9, H'⟩)
  · have hlo : lo = lessN L x := by omega
    subst hlo
    refine LoopK_x (BlkK_e (qai ?_))
    have a2 := a.same H.same (fun _ _ h => h)
    refine qau ?_
    refine qak (W_opsB [8, 55] (fun fr s' => s2 = s' ∧ geT fr 8 = .int .i64 (lessN L x : Nat) ∧ geT fr 55 = .bool (findB L (lessN L x) b g)) ?_ ?_)
    · intro R' hR'
      by_cases hin : lessN L x < L.length
      · obtain ⟨A, _⟩ := spots_at a2 hin rfl
        have p0 := a2.fld (by omega : 0 < L.length) (lessN L x * 3) 0
        have p1 := a2.fld (by omega : 0 < L.length) (lessN L x * 3) 1
        rw [Nat.add_zero] at p0
        obtain ⟨f0, f1, _⟩ := flatI hin
        have l0 := a2.load f0
        have l1 := a2.load f1
        have hfb : findB L (lessN L x) b g = (decide ((atI L (lessN L x)).1 = b) && decide ((atI L (lessN L x)).2.1 = g)) := by unfold findB; rw [atI_eq hin, List.getElem?_eq_getElem hin]
        have hd : decide (((lessN L x : Nat) : Int) < (L.length : Nat)) = true := decide_eq_true (by omega)
        cases hb : decide ((atI L (lessN L x)).1 = b) with
        | false =>
          simp only [o58_10, WO_addrSl, qao, WO_bu, WO_fieldAddr, WO_load, qah, WO_pick, pick_b, bin_eql, bin_lss, qaj, qag, WO_guard, want_v, wantB_t, qad, qaf, qae, qab, qaa, qac, List.map_cons, List.map_nil, Nat.reduceEqDiff, ↓reduceIte, eq_self, Bool.false_eq_true, e0, e1, e8, a2.len, hd, A, p0, l0, hb]
          intro fr e8 e55
          exact hR' _ _ ⟨rfl, e8, by rw [e55, hfb, hb]; rfl⟩
        | true =>
          simp only [o58_10, WO_addrSl, qao, WO_bu, WO_fieldAddr, WO_load, qah, WO_pick, pick_b, bin_eql, bin_lss, qaj, qag, WO_guard, want_v, wantB_t, qad, qaf, qae, qab, qaa, qac, List.map_cons, List.map_nil, Nat.reduceEqDiff, ↓reduceIte, eq_self, e0, e1, e2, e8, a2.len, hd, A, p0, l0, hb, p1, l1]
          intro fr e8 e55
          exact hR' _ _ ⟨rfl, e8, by rw [e55, hfb, hb]; rfl⟩
      · have hfb : findB L (lessN L x) b g = false := by unfold findB; rw [List.getElem?_eq_none (by omega)]
        have hd : decide (((lessN L x : Nat) : Int) < (L.length : Nat)) = false := decide_eq_false (by omega)
        simp only [o58_10, qao, WO_bu, qah, WO_pick, pick_b, bin_lss, qaj, qag, WO_guard, want_v, wantB_t, qad, qaf, qae, qab, qaa, qac, List.map_cons, List.map_nil, Nat.reduceEqDiff, ↓reduceIte, eq_self, Bool.false_eq_true, e0, e8, a2.len, hd]
        intro fr e8 e55
        exact hR' _ _ ⟨rfl, e8, by rw [e55, hfb]⟩
    clear e0 e1 e2 e7 e8 e9 e18 fr
    rintro fr _ ⟨rfl, e8, e55⟩
    refine qai ?_
    cases hfb : findB L (lessN L x) b g with
    | true =>
      rw [hfb] at e55
      refine qak (W_cond e55 (fun _ => ?_) (fun h => by cases h))
      refine qak (qan [6] ?_)
      simp only [o58_11, qah, qaj, qad, qaf, qab, qaa, qac, ↓reduceIte, eq_self, e8]
      clear e8 e55
      intro fr e6
      refine qai ?_
      refine W_ret (SeqK_r (Ret1 e6 ⟨_, rfl, .inr ?_, H.same⟩))
      unfold findB at hfb
      split at hfb
      · rename_i y hy
        rw [Bool.and_eq_true, decide_eq_true_iff, decide_eq_true_iff] at hfb
        exact ⟨lessN L x, y, rfl, hy, by unfold cellI; rw [hfb.1, hfb.2]⟩
      · cases hfb
    | false =>
      rw [hfb] at e55
      refine qak (W_cond e55 (fun h => by cases h) (fun _ => W_skip (qai ?_)))
      refine qak (qan [6] ?_)
      simp only [o58_12, qah, qaj, qad, qae, qab, qaa, qac, ↓reduceIte, eq_self]
      clear e8 e55
      intro fr e6
      refine qai ?_
      refine W_ret (Ret1 e6 ⟨_, rfl, .inl ⟨rfl, ?_⟩, H.same⟩)
      rw [← hcx]
      refine find_none hs fun y hy e => ?_
      unfold findB at hfb
      rw [hy] at hfb
      simp only [cellI, Prod.mk.injEq] at e
      rw [hx1, hx2] at e
      simp [e.1, e.2] at hfb
end Go.Proofs.Ytpphomoijlilfaa.G

/- Peaks: the document's neighbours, walked. -/
namespace Go.Proofs.Ytpphomoijlilfaa.G
open Go Go.Vam Go.Hang
def cbI (B b : Int) : Int := if (if b < 0 then B - 1 else b) = B then 0 else (if b < 0 then B - 1 else b)
def cellN (B : Int) (x : SpI) (p k : Nat) : Int × Int := (cbI B (x.1 + ((p : Int) - 1)), wrapK .i64 (x.2.1 + ((k : Int) - 1)))
def rowN (B : Int) (x : SpI) (p k : Nat) : List (Int × Int) := (List.range k).map (cellN B x p)
def cellsN (B : Int) (x : SpI) (p : Nat) : List (Int × Int) := (List.range p).flatMap fun p => rowN B x p 3
def NearL (L : List SpI) (cs : List (Int × Int)) (ns : List Nat) : Prop :=
  (∀ n ∈ ns, ∃ y, L[n]? = some y ∧ cellI y ∈ cs) ∧ (∀ (j : Nat) y, L[j]? = some y → cellI y ∈ cs → j ∈ ns)
theorem uniq_cell {L : List SpI} (hs : L.Pairwise ltI) {i j : Nat} {x y : SpI} (hi : L[i]? = some x) (hj : L[j]? = some y) (h : cellI x = cellI y) : i = j := by
  have hil := (List.getElem?_eq_some_iff.1 hi)
  have hjl := (List.getElem?_eq_some_iff.1 hj)
  obtain ⟨hi1, rfl⟩ := hil
  obtain ⟨hj1, rfl⟩ := hjl
  simp only [cellI, Prod.mk.injEq] at h
  rcases Nat.lt_trichotomy i j with hlt | e | hlt
  · have := (List.pairwise_iff_getElem.1 hs) i j hi1 hj1 hlt
    unfold ltI at this; omega
  · exact e
  · have := (List.pairwise_iff_getElem.1 hs) j i hj1 hi1 hlt
    unfold ltI at this; omega
theorem NearL.miss {L : List SpI} {cs : List (Int × Int)} {ns : List Nat} (h : NearL L cs ns) {c : Int × Int} (hc : ∀ y ∈ L, cellI y ≠ c) : NearL L (cs ++ [c]) ns := by
  refine ⟨fun n hn => ?_, fun j y hj hy => ?_⟩
  · obtain ⟨y, h1, h2⟩ := h.1 n hn
    exact ⟨y, h1, List.mem_append_left _ h2⟩
  · rcases List.mem_append.1 hy with hy | hy
    · exact h.2 j y hj hy
    · simp at hy
      exact absurd hy (hc y (List.mem_of_getElem? hj))
theorem NearL.hit {L : List SpI} (hs : L.Pairwise ltI) {cs : List (Int × Int)} {ns : List Nat} (h : NearL L cs ns) {c : Int × Int} {n : Nat} {y : SpI} (hn : L[n]? = some y) (hc : cellI y = c) : NearL L (cs ++ [c]) (ns ++ [n]) := by
  refine ⟨fun m hm => ?_, fun j z hj hz => ?_⟩
  · rcases List.mem_append.1 hm with hm | hm
    · obtain ⟨y, h1, h2⟩ := h.1 m hm
      exact ⟨y, h1, List.mem_append_left _ h2⟩
    · simp at hm; subst hm
      exact ⟨y, hn, by rw [hc]; simp⟩
  · rcases List.mem_append.1 hz with hz | hz
    · exact List.mem_append_left _ (h.2 j z hj hz)
    · simp at hz
      have := uniq_cell hs hj hn (hz.trans hc.symm)
      subst this
      simp
theorem rowN_succ (B : Int) (x : SpI) (p k : Nat) : rowN B x p (k + 1) = rowN B x p k ++ [cellN B x p k] := by
  unfold rowN; rw [List.range_succ, List.map_append]; rfl
theorem cellsN_succ (B : Int) (x : SpI) (p : Nat) : cellsN B x (p + 1) = cellsN B x p ++ rowN B x p 3 := by
  unfold cellsN; rw [List.range_succ, List.flatMap_append]; simp
set_option maxHeartbeats 4000000 in
theorem run42 {X : Ctx} (hX : X.fns = fnsOf Try.prog) (ho : ∀ f args, f ≠ 15 ∧ f ≠ 38 → X.orc f args = none) {s0 s : Mm} {l : List HP} {v : Value} {L : List SpI} {x : SpI} {B : Int} (H0 : Hold s0 s l) (a : SlC s 3 v L.length (L.flatMap eI)) (hL : L.length ≤ 5864062014634) (hs : L.Pairwise ltI) (hx : okI B x) (hB : B ≤ 9223372036854775807) :
    CallP X 42 [v, sI x, .int .i64 B] s (fun r s' => ∃ ns : List Nat, NearL L (cellsN B x 3) ns ∧ ns.length ≤ 9 ∧ Hold s0 s' (HP.own 1 r ns.length (ns.map iV) :: l)) := by
  obtain ⟨x1, x2, x3⟩ := hx
  have hbx : (sI x).cells.toList = eI x := rfl
  have H1 := (((Hold.refl s).new (eI x))).nil 1
  refine CallP_of (hX ▸ ir42_eq) (ho _ _ (by decide)) (Nat.le_of_ble_eq_true rfl) ?_
  refine qak (qan [0, 2, 4] ?_)
  simp only [o42_0, WO_box, qah, qaj, qad, frame_nil, qbc, qaf, qae, qab, qaa, qac, Nat.reduceEqDiff, Nat.reduceAdd, ↓reduceIte, eq_self, Nat.zero_add, hbx]
  intro fr e0 e2 e4
  refine qai ?_
  generalize newAt s (.cells (eI x) false) = s1 at H1 ⊢
  generalize s.nxt = Bs at H1 e4
  refine qak (qan [0, 2, 4, 7] ?_)
  simp only [o42_1, qah, qaj, qad, qae, qab, qaa, qac, Nat.reduceEqDiff, ↓reduceIte, eq_self, e0, e2, e4]
  clear e0 e2 e4
  intro fr e0 e2 e4 e7
  refine qai ?_
  refine qau ?_
  refine qak (qan [0, 2, 4, 7, 8] ?_)
  simp only [o42_2, qah, qaj, qad, qae, qab, qaa, qac, Nat.reduceEqDiff, ↓reduceIte, eq_self, e0, e2, e4, e7]
  clear e0 e2 e4 e7
  intro fr e0 e2 e4 e7 e8
  refine qai ?_
  refine qak (qat (W_loop (fun m fr s2 => ∃ (p : Nat) (nv : Value) (ns : List Nat), p + m = 3 ∧ ns.length ≤ p * 3 ∧ NearL L (cellsN B x p) ns ∧ geT fr 0 = v ∧ geT fr 2 = .int .i64 B ∧ geT fr 4 = .pointer (some ⟨Bs, 0, none⟩) ∧ geT fr 7 = nv ∧ geT fr 8 = .int .i64 ((p : Int) - 1) ∧
    Hold s s2 [HP.own 1 nv ns.length (ns.map iV), HP.cell Bs (eI x)]) 3 ⟨0, _, [], rfl, by simp, ⟨fun n hn => by simp at hn, fun j y _ hy => by simp [cellsN] at hy⟩, e0, e2, e4, e7, e8, H1⟩ ?_))
  clear e0 e2 e4 e7 e8 fr H1 s1
  rintro m fr s2 ⟨p, nv, ns, hp, hl, hN, e0, e2, e4, e7, e8, H⟩
  refine qau ?_
  refine qak (qan [0, 2, 4, 7, 8, 13] ?_)
  simp only [o42_4, qao, qah, bin_leq, qaj, qag, qad, qaf, qae, qab, qaa, qac, Nat.reduceEqDiff, ↓reduceIte, eq_self, e0, e2, e4, e7, e8]
  clear e0 e2 e4 e7 e8
  intro fr e0 e2 e4 e7 e8 e13
  refine qai ?_
  refine W_while e13 (fun hlt => ?_) (fun hlt => ?_)
  · refine qak (qat ?_)
    refine qak (qan [0, 2, 4, 7, 8, 9] ?_)
    simp only [o42_5, qah, qaj, qad, qae, qab, qaa, qac, Nat.reduceEqDiff, ↓reduceIte, eq_self, e0, e2, e4, e7, e8]
    clear e0 e2 e4 e7 e8 e13
    intro fr e0 e2 e4 e7 e8 e9
    refine qai ?_
    refine qat (W_loop (fun m2 fr s3 => ∃ (k : Nat) (nv : Value) (ns : List Nat), k + m2 = 3 ∧ ns.length ≤ p * 3 + k ∧ NearL L (cellsN B x p ++ rowN B x p k) ns ∧ geT fr 0 = v ∧ geT fr 2 = .int .i64 B ∧ geT fr 4 = .pointer (some ⟨Bs, 0, none⟩) ∧ geT fr 7 = nv ∧ geT fr 8 = .int .i64 ((p : Int) - 1) ∧ geT fr 9 = .int .i64 ((k : Int) - 1) ∧
      Hold s s3 [HP.own 1 nv ns.length (ns.map iV), HP.cell Bs (eI x)]) 3 ⟨0, nv, ns, rfl, by omega, by simpa [rowN] using hN, e0, e2, e4, e7, e8, e9, H⟩ ?_)
    clear e0 e2 e4 e7 e8 e9 fr H hN hl s2 nv ns
    rintro m2 fr s3 ⟨k, nv, ns, hk, hl, hN, e0, e2, e4, e7, e8, e9, H⟩
    refine qau ?_
    refine qak (qan [0, 2, 4, 7, 8, 9, 17] ?_)
    simp only [o42_7, qao, qah, bin_leq, qaj, qag, qad, qaf, qae, qab, qaa, qac, Nat.reduceEqDiff, ↓reduceIte, eq_self, e0, e2, e4, e7, e8, e9]
    clear e0 e2 e4 e7 e8 e9
    intro fr e0 e2 e4 e7 e8 e9 e17
    refine qai ?_
    refine W_while e17 (fun hlt2 => ?_) (fun hlt2 => ?_)
    · have l0 : loadV s3 none (.pointer (some ⟨Bs, 0, none⟩)) = some (.int .i64 x.1) := load_g (o := 0) (H.cell (cs := eI x) (by simp))
      have l1 : loadV s3 none (.pointer (some ⟨Bs, 1, none⟩)) = some (.int .i64 x.2.1) := load_g (o := 1) (H.cell (cs := eI x) (by simp))
      refine qak (qat ?_)
      obtain ⟨b, hb⟩ : ∃ b : Int, b = x.1 + ((p : Int) - 1) := ⟨_, rfl⟩
      have wb := qal (n := b) (by omega) (by omega)
      have hcb : cbI B b = if (if b < 0 then B - 1 else b) = B then 0 else (if b < 0 then B - 1 else b) := rfl
      refine qak (qan [0, 2, 4, 7, 8, 9, 10] ?_)
      simp only [o42_8, qao, WO_fieldAddr, fieldAddr_p, WO_load, qah, qax, qaj, qag, qad, qaf, qab, qaa, qac, Nat.reduceEqDiff, ↓reduceIte, eq_self, Nat.add_zero, e0, e2, e4, e7, e8, e9, l0, ← hb, wb]
      clear e0 e2 e4 e7 e8 e9 e17
      intro fr e0 e2 e4 e7 e8 e9 e10
      refine qai ?_
      refine qak (W_cutN (fun fr s' => s3 = s' ∧ geT fr 0 = v ∧ geT fr 2 = .int .i64 B ∧ geT fr 4 = .pointer (some ⟨Bs, 0, none⟩) ∧ geT fr 7 = nv ∧ geT fr 8 = .int .i64 ((p : Int) - 1) ∧ geT fr 9 = .int .i64 ((k : Int) - 1) ∧ geT fr 10 = .int .i64 (if b < 0 then B - 1 else b)) ?_ ?_)
      · intro R' hR'
        refine qak (qan [0, 2, 4, 7, 8, 9, 10, 25] ?_)
        simp only [o42_9, qao, qah, bin_lss, qaj, qag, qad, qaf, qae, qab, qaa, qac, Nat.reduceEqDiff, ↓reduceIte, eq_self, e0, e2, e4, e7, e8, e9, e10]
        clear e0 e2 e4 e7 e8 e9 e10
        intro fr e0 e2 e4 e7 e8 e9 e10 e25
        refine qai ?_
        refine W_if e25 (fun h => ?_) (fun h => W_skip (hR' _ _ ⟨rfl, e0, e2, e4, e7, e8, e9, by rw [e10, if_neg h]⟩))
        refine qan [0, 2, 4, 7, 8, 9, 10] ?_
        simp only [o42_10, qao, qah, qbd, qaj, qag, qad, qaf, qae, qab, qaa, qac, Nat.reduceEqDiff, ↓reduceIte, eq_self, e0, e2, e4, e7, e8, e9, qal (n := B - 1) (by omega) (by omega)]
        clear e0 e2 e4 e7 e8 e9 e10 e25
        intro fr e0 e2 e4 e7 e8 e9 e10
        exact hR' _ _ ⟨rfl, e0, e2, e4, e7, e8, e9, by rw [e10, if_pos h]⟩
      clear e0 e2 e4 e7 e8 e9 e10 fr
      rintro fr _ ⟨rfl, e0, e2, e4, e7, e8, e9, e10⟩
      refine qai ?_
      generalize (if b < 0 then B - 1 else b) = b2 at e10 hcb
      refine qak (W_cutN (fun fr s' => s3 = s' ∧ geT fr 0 = v ∧ geT fr 2 = .int .i64 B ∧ geT fr 4 = .pointer (some ⟨Bs, 0, none⟩) ∧ geT fr 7 = nv ∧ geT fr 8 = .int .i64 ((p : Int) - 1) ∧ geT fr 9 = .int .i64 ((k : Int) - 1) ∧ geT fr 10 = .int .i64 (cbI B b)) ?_ ?_)
      · intro R' hR'
        refine qak (qan [0, 2, 4, 7, 8, 9, 10, 30] ?_)
        simp only [o42_11, qao, qah, bin_eql, qaj, qag, qad, qaf, qab, qaa, qac, Nat.reduceEqDiff, ↓reduceIte, eq_self, e0, e2, e4, e7, e8, e9, e10]
        clear e0 e2 e4 e7 e8 e9 e10
        intro fr e0 e2 e4 e7 e8 e9 e10 e30
        refine qai ?_
        refine W_if e30 (fun h => ?_) (fun h => W_skip (hR' _ _ ⟨rfl, e0, e2, e4, e7, e8, e9, by rw [e10, hcb, if_neg h]⟩))
        refine qan [0, 2, 4, 7, 8, 9, 10] ?_
        simp only [o42_12, qah, qaj, qad, qae, qab, qaa, qac, Nat.reduceEqDiff, ↓reduceIte, eq_self, e0, e2, e4, e7, e8, e9]
        clear e0 e2 e4 e7 e8 e9 e10 e30
        intro fr e0 e2 e4 e7 e8 e9 e10
        exact hR' _ _ ⟨rfl, e0, e2, e4, e7, e8, e9, by rw [e10, hcb, if_pos h]⟩
      clear e0 e2 e4 e7 e8 e9 e10 fr
      rintro fr _ ⟨rfl, e0, e2, e4, e7, e8, e9, e10⟩
      refine qai ?_
      have hcell : (cbI B b, wrapK .i64 (x.2.1 + ((k : Int) - 1))) = cellN B x p k := by unfold cellN; rw [hb]
      refine qak (qan [0, 2, 4, 7, 8, 9, 11] ?_)
      simp only [o42_13, qao, WO_call, WO_fieldAddr, fieldAddr_p, WO_load, qah, qax, qag, qad, qaf, List.map_cons, List.map_nil, Nat.reduceEqDiff, ↓reduceIte, eq_self, Nat.zero_add, e0, e4, e9, e10, l1]
      refine CallK_of (run58 hX ho (a.same H.same (fun _ _ h => h)) hL hs) ?_
      rintro _ s4 ⟨z, rfl, hz, hs4⟩
      have H' := H.keep hs4
      rw [hcell] at hz
      simp only [qah, qaj, qad, qaf, qab, qaa, qac, Nat.reduceEqDiff, ↓reduceIte, eq_self, e0, e2, e4, e7, e8, e9]
      clear e0 e2 e4 e7 e8 e9 e10
      intro fr e0 e2 e4 e7 e8 e9 e11
      refine qai ?_
      refine qak (qan [0, 2, 4, 7, 8, 9, 11, 39] ?_)
      simp only [o42_14, qao, qah, bin_geq, qaj, qag, qad, qaf, qae, qab, qaa, qac, Nat.reduceEqDiff, ↓reduceIte, eq_self, e0, e2, e4, e7, e8, e9, e11]
      clear e0 e2 e4 e7 e8 e9 e11
      intro fr e0 e2 e4 e7 e8 e9 e11 e39
      refine qai ?_
      have hrow : cellsN B x p ++ rowN B x p (k + 1) = (cellsN B x p ++ rowN B x p k) ++ [cellN B x p k] := by rw [rowN_succ, List.append_assoc]
      rcases hz with ⟨rfl, hno⟩ | ⟨n, y, rfl, hn, hcy⟩
      · refine W_if e39 (fun h => by omega) (fun _ => W_skip (BlkK_n (qai ?_)))
        refine qan [0, 2, 4, 7, 8, 9] ?_
        simp only [o42_16, qao, qah, qax, qaj, qag, qad, qaf, qae, qab, qaa, qac, Nat.reduceEqDiff, ↓reduceIte, eq_self, e0, e2, e4, e7, e8, e9, qal (n := (k : Int) - 1 + 1) (by omega) (by omega)]
        clear e0 e2 e4 e7 e8 e9
        intro fr e0 e2 e4 e7 e8 e9
        exact LoopK_n (m' := m2 - 1) (by omega) ⟨k + 1, nv, ns, by omega, by omega, by rw [hrow]; exact hN.miss hno, e0, e2, e4, e7, e8, by rw [e9]; congr 1; omega, H'⟩
      · refine W_if e39 (fun _ => ?_) (fun h => absurd (Int.natCast_nonneg n) h)
        have hbs : buildSlV s4 1 [.int .i64 0] 1 [(0, 1, .int .i64 (n : Nat))] = some (.slice (some ⟨s4.nxt, 0, none⟩) 1 1, .cells [.int .i64 (n : Nat)] false) := rfl
        obtain ⟨nv', s5, ap, H5⟩ := H'.push (bytes := 8) (new := [.int .i64 (n : Nat)]) rfl rfl (by omega) (by decide) (by omega) (by omega) (by omega)
        refine qan [0, 2, 4, 7, 8, 9] ?_
        simp only [o42_15, WO_append, WO_buildSlice, qah, qaj, MemK_some, NewK_some, qad, qaf, qab, qaa, qac, List.map_cons, List.map_nil, Nat.reduceEqDiff, ↓reduceIte, eq_self, Nat.mul_one, e0, e2, e4, e7, e8, e9, e11, hbs, ap]
        clear e0 e2 e4 e7 e8 e9 e11 e39
        intro fr e0 e2 e4 e7 e8 e9
        refine BlkK_n (qai ?_)
        refine qan [0, 2, 4, 7, 8, 9] ?_
        simp only [o42_16, qao, qah, qax, qaj, qag, qad, qaf, qae, qab, qaa, qac, Nat.reduceEqDiff, ↓reduceIte, eq_self, e0, e2, e4, e7, e8, e9, qal (n := (k : Int) - 1 + 1) (by omega) (by omega)]
        clear e0 e2 e4 e7 e8 e9
        intro fr e0 e2 e4 e7 e8 e9
        refine LoopK_n (m' := m2 - 1) (by omega) ⟨k + 1, nv', ns ++ [n], by omega, by simp; omega, by rw [hrow]; exact hN.hit hs hn hcy, e0, e2, e4, e7, e8, by rw [e9]; congr 1; omega, ?_⟩
        rw [show ns.map iV ++ [Value.int .i64 ((n : Nat) : Int)] = (ns ++ [n]).map iV by simp [iV], show ns.length + 1 = (ns ++ [n]).length by simp] at H5
        exact H5
    · have hk3 : k = 3 := by omega
      subst hk3
      refine LoopK_x (BlkK_e (BlkK_n (qai ?_)))
      refine qan [0, 2, 4, 7, 8] ?_
      simp only [o42_17, qao, qah, qax, qaj, qag, qad, qaf, qae, qab, qaa, qac, Nat.reduceEqDiff, ↓reduceIte, eq_self, e0, e2, e4, e7, e8, qal (n := (p : Int) - 1 + 1) (by omega) (by omega)]
      clear e0 e2 e4 e7 e8
      intro fr e0 e2 e4 e7 e8
      exact LoopK_n (m' := m - 1) (by omega) ⟨p + 1, nv, ns, by omega, by omega, by rw [cellsN_succ]; exact hN, e0, e2, e4, e7, by rw [e8]; congr 1; omega, H⟩
  · have hp3 : p = 3 := by omega
    subst hp3
    refine LoopK_x (BlkK_e (qai ?_))
    refine qak (qan [6] ?_)
    simp only [o42_18, qah, qaj, qad, qaf, qab, qaa, qac, ↓reduceIte, eq_self, e7]
    clear e7
    intro fr e6
    refine qai ?_
    have H9 := H0.app H.up1.tail
    exact W_ret (Ret1 e6 ⟨ns, hN, by omega, H9⟩)
end Go.Proofs.Ytpphomoijlilfaa.G

/- Spots merged: plain. -/
namespace Go.Proofs.Ytpphomoijlilfaa.G
open Go Go.Vam Go.Hang
theorem First.mem {l : List Sp} {y : Sp} (h : First l y) : y ∈ l := by
  obtain ⟨a, b, rfl, _⟩ := h; simp
theorem first_ex {l : List Sp} {z : Sp} (hz : z ∈ l) : ∃ y, First l y ∧ cellI y = cellI z := by
  induction l with
  | nil => simp at hz
  | cons x l ih =>
    by_cases hx : cellI x = cellI z
    · exact ⟨x, first_cons.2 (.inl rfl), hx⟩
    · rcases List.mem_cons.1 hz with rfl | hz
      · exact absurd rfl hx
      · obtain ⟨y, h1, h2⟩ := ih hz
        exact ⟨y, first_cons.2 (.inr ⟨fun e => hx (e.trans h2), h1⟩), h2⟩
theorem first_app {l m : List Sp} {y : Sp} : First (l ++ m) y ↔ First l y ∨ ((∀ z ∈ l, cellI z ≠ cellI y) ∧ First m y) := by
  induction l with
  | nil =>
    constructor
    · intro h; exact .inr ⟨by simp, h⟩
    · rintro (h | h)
      · have := h.mem; simp at this
      · exact h.2
  | cons x l ih =>
    rw [List.cons_append, first_cons, first_cons, ih]
    constructor
    · rintro (h | ⟨h, h1 | ⟨h1, h2⟩⟩)
      · exact .inl (.inl h)
      · exact .inl (.inr ⟨h, h1⟩)
      · exact .inr ⟨fun z hz => by
          rcases List.mem_cons.1 hz with rfl | hz
          · exact h
          · exact h1 z hz, h2⟩
    · rintro ((h | ⟨h, h1⟩) | ⟨h1, h2⟩)
      · exact .inl h
      · exact .inr ⟨h, .inl h1⟩
      · exact .inr ⟨h1 x (by simp), .inr ⟨fun z hz => h1 z (by simp [hz]), h2⟩⟩
structure Mrg (a b : List SpI) (i k : Nat) (out : List SpI) : Prop where
  sort : out.Pairwise ltI
  lessA : ∀ y ∈ out, ∀ j z, i ≤ j → a[j]? = some z → ltI y z
  lessB : ∀ y ∈ out, ∀ j z, k ≤ j → b[j]? = some z → ltI y z
  mem : ∀ y, y ∈ out ↔ (∃ j, j < i ∧ a[j]? = some y) ∨ (∃ j, j < k ∧ b[j]? = some y ∧ ∀ z ∈ a, cellI z ≠ cellI y)
theorem lt_cell {x y : SpI} (h : ltI x y) : cellI x ≠ cellI y := by
  intro e
  simp only [cellI, Prod.mk.injEq] at e
  unfold ltI at h; omega
theorem Mrg.start (a b : List SpI) : Mrg a b 0 0 [] := ⟨.nil, fun y hy => by simp at hy, fun y hy => by simp at hy, fun y => by simp⟩
theorem sorted_at {a : List SpI} (h : a.Pairwise ltI) {i j : Nat} {x y : SpI} (hi : a[i]? = some x) (hj : a[j]? = some y) (hij : i < j) : ltI x y := by
  obtain ⟨hi1, rfl⟩ := List.getElem?_eq_some_iff.1 hi
  obtain ⟨hj1, rfl⟩ := List.getElem?_eq_some_iff.1 hj
  exact (List.pairwise_iff_getElem.1 h) i j hi1 hj1 hij
theorem sort_app {out : List SpI} {x : SpI} (h : out.Pairwise ltI) (hx : ∀ y ∈ out, ltI y x) : (out ++ [x]).Pairwise ltI := by
  rw [List.pairwise_append]
  exact ⟨h, by simp, fun y hy z hz => by simp at hz; subst hz; exact hx y hy⟩
theorem Mrg.takeA {a b out : List SpI} {i k : Nat} (h : Mrg a b i k out) (ha : a.Pairwise ltI) (hb : b.Pairwise ltI) {x y : SpI} (hx : a[i]? = some x) (hy : b[k]? = some y) (hl : ltI x y) : Mrg a b (i + 1) k (out ++ [x]) := by
  refine ⟨sort_app h.sort fun z hz => h.lessA z hz i x (Nat.le_refl _) hx, fun z hz j w hj hw => ?_, fun z hz j w hj hw => ?_, fun z => ?_⟩
  · rcases List.mem_append.1 hz with hz | hz
    · exact h.lessA z hz j w (by omega) hw
    · simp at hz; subst hz; exact sorted_at ha hx hw (by omega)
  · rcases List.mem_append.1 hz with hz | hz
    · exact h.lessB z hz j w hj hw
    · simp at hz; subst hz
      by_cases e : j = k
      · subst e; rw [hy] at hw; cases hw; exact hl
      · exact ltI_tr _ _ _ hl (sorted_at hb hy hw (by omega))
  · rw [List.mem_append, h.mem]
    constructor
    · rintro ((⟨j, h1, h2⟩ | h1) | h1)
      · exact .inl ⟨j, by omega, h2⟩
      · exact .inr h1
      · simp at h1; subst h1; exact .inl ⟨i, by omega, hx⟩
    · rintro (⟨j, h1, h2⟩ | h1)
      · by_cases e : j = i
        · subst e; rw [hx] at h2; cases h2; exact .inr (by simp)
        · exact .inl (.inl ⟨j, by omega, h2⟩)
      · exact .inl (.inr h1)
theorem Mrg.skip {a b out : List SpI} {i k : Nat} (h : Mrg a b i k out) {x y : SpI} (hx : a[i]? = some x) (hy : b[k]? = some y) (hc : cellI x = cellI y) : Mrg a b i (k + 1) out := by
  refine ⟨h.sort, h.lessA, fun z hz j w hj hw => h.lessB z hz j w (by omega) hw, fun z => ?_⟩
  rw [h.mem]
  constructor
  · rintro (h1 | ⟨j, h1, h2, h3⟩)
    · exact .inl h1
    · exact .inr ⟨j, by omega, h2, h3⟩
  · rintro (h1 | ⟨j, h1, h2, h3⟩)
    · exact .inl h1
    · by_cases e : j = k
      · subst e; rw [hy] at h2; cases h2
        exact absurd hc (h3 x (List.mem_of_getElem? hx))
      · exact .inr ⟨j, by omega, h2, h3⟩
theorem Mrg.takeB {a b out : List SpI} {i k : Nat} (h : Mrg a b i k out) (ha : a.Pairwise ltI) (hb : b.Pairwise ltI) {y : SpI} (hy : b[k]? = some y) (hn : ∀ x, a[i]? = some x → ¬ ltI x y ∧ cellI x ≠ cellI y) : Mrg a b i (k + 1) (out ++ [y]) := by
  have hy2 : ∀ j z, i ≤ j → a[j]? = some z → ltI y z := fun j z hj hz => by
    have hi : i < a.length := by have := (List.getElem?_eq_some_iff.1 hz).1; omega
    obtain ⟨x, hx⟩ : ∃ x, a[i]? = some x := ⟨a[i], List.getElem?_eq_getElem hi⟩
    obtain ⟨n1, n2⟩ := hn x hx
    have hyx : ltI y x := ltI_tri (fun e => n2 e.symm) n1
    by_cases e : j = i
    · subst e; rw [hx] at hz; cases hz; exact hyx
    · exact ltI_tr _ _ _ hyx (sorted_at ha hx hz (by omega))
  refine ⟨sort_app h.sort fun z hz => h.lessB z hz k y (Nat.le_refl _) hy, fun z hz j w hj hw => ?_, fun z hz j w hj hw => ?_, fun z => ?_⟩
  · rcases List.mem_append.1 hz with hz | hz
    · exact h.lessA z hz j w hj hw
    · simp at hz; subst hz; exact hy2 j w hj hw
  · rcases List.mem_append.1 hz with hz | hz
    · exact h.lessB z hz j w (by omega) hw
    · simp at hz; subst hz; exact sorted_at hb hy hw (by omega)
  · rw [List.mem_append, h.mem]
    constructor
    · rintro ((h1 | ⟨j, h1, h2, h3⟩) | h1)
      · exact .inl h1
      · exact .inr ⟨j, by omega, h2, h3⟩
      · simp at h1; subst h1
        refine .inr ⟨k, by omega, hy, fun w hw => ?_⟩
        obtain ⟨j, hj, e⟩ := List.getElem_of_mem hw
        have hj' : a[j]? = some w := by rw [List.getElem?_eq_getElem hj, e]
        by_cases hji : j < i
        · exact lt_cell (h.lessB w ((h.mem w).2 (.inl ⟨j, hji, hj'⟩)) k z (Nat.le_refl _) hy)
        · exact fun e => lt_cell (hy2 j w (by omega) hj') e.symm
    · rintro (h1 | ⟨j, h1, h2, h3⟩)
      · exact .inl (.inl h1)
      · by_cases e : j = k
        · subst e; rw [hy] at h2; cases h2; exact .inr (by simp)
        · exact .inl (.inr ⟨j, by omega, h2, h3⟩)
theorem Mrg.fin {a b out : List SpI} {i : Nat} (h : Mrg a b i b.length out) (ha : a.Pairwise ltI) {L1 L2 : List SpI} (hA : ∀ y, y ∈ a ↔ First L1 y) (hB : ∀ y, y ∈ b ↔ First L2 y) :
    (out ++ a.drop i).Pairwise ltI ∧ ∀ y, y ∈ out ++ a.drop i ↔ First (L1 ++ L2) y := by
  constructor
  · rw [List.pairwise_append]
    refine ⟨h.sort, ha.sublist (List.drop_sublist ..), fun y hy z hz => ?_⟩
    obtain ⟨j, hj, e⟩ := List.getElem_of_mem hz
    rw [List.getElem_drop] at e
    have hj2 : i + j < a.length := by simp at hj; omega
    exact h.lessA y hy (i + j) z (by omega) (by rw [List.getElem?_eq_getElem hj2, e])
  · intro y
    have hcl : (∀ z ∈ a, cellI z ≠ cellI y) ↔ ∀ z ∈ L1, cellI z ≠ cellI y := by
      constructor
      · intro hz z hz1 e
        obtain ⟨w, h1, h2⟩ := first_ex hz1
        exact hz w ((hA w).2 h1) (h2.trans e)
      · intro hz z hz1
        exact hz z ((hA z).1 hz1).mem
    rw [List.mem_append, h.mem, first_app, ← hA, ← hB, ← hcl]
    constructor
    · rintro ((⟨j, _, h2⟩ | ⟨j, _, h2, h3⟩) | h1)
      · exact .inl (List.mem_of_getElem? h2)
      · exact .inr ⟨h3, List.mem_of_getElem? h2⟩
      · exact .inl (List.mem_of_mem_drop h1)
    · rintro (h1 | ⟨h1, h2⟩)
      · obtain ⟨j, hj, e⟩ := List.getElem_of_mem h1
        by_cases hji : j < i
        · exact .inl (.inl ⟨j, hji, by rw [List.getElem?_eq_getElem hj, e]⟩)
        · refine .inr (List.mem_of_getElem? (i := j - i) ?_)
          rw [List.getElem?_drop, show i + (j - i) = j by omega, List.getElem?_eq_getElem hj, e]
      · obtain ⟨j, hj, e⟩ := List.getElem_of_mem h2
        exact .inl (.inr ⟨j, hj, by rw [List.getElem?_eq_getElem hj, e], h1⟩)
end Go.Proofs.Ytpphomoijlilfaa.G

/- Peaks: the document's sorting, walked. -/
namespace Go.Proofs.Ytpphomoijlilfaa.G
open Go Go.Vam Go.Hang
theorem flat_dropI (L : List SpI) (i : Nat) : (L.flatMap eI).drop (i * 3) = (L.drop i).flatMap eI := by
  induction L generalizing i with
  | nil => simp
  | cons x L ih =>
    cases i with
    | zero => simp
    | succ i =>
      rw [List.flatMap_cons, show (i + 1) * 3 = (eI x).length + i * 3 by show _ = 3 + i * 3; omega, List.drop_append]
      simp only [List.drop_eq_nil_of_le (show (eI x).length ≤ (eI x).length + i * 3 by omega), List.nil_append, Nat.add_sub_cancel_left]
      rw [ih]; rfl
theorem flat_takeI (L : List SpI) (i : Nat) : (L.flatMap eI).take (i * 3) = (L.take i).flatMap eI := by
  induction L generalizing i with
  | nil => simp
  | cons x L ih =>
    cases i with
    | zero => simp
    | succ i =>
      rw [List.flatMap_cons, show (i + 1) * 3 = (eI x).length + i * 3 by show _ = 3 + i * 3; omega, List.take_append]
      simp only [List.take_of_length_le (show (eI x).length ≤ (eI x).length + i * 3 by omega), Nat.add_sub_cancel_left]
      rw [ih]; rfl
theorem subI {s : Mm} {v : Value} {L : List SpI} (a : SlC s 3 v L.length (L.flatMap eI)) {l h : Nat} (hl : l ≤ h) (hh : h ≤ L.length) : SlC s 3 (subS 3 v l h) ((L.drop l).take (h - l)).length (((L.drop l).take (h - l)).flatMap eI) := by
  have := a.sub hl hh
  rw [flat_dropI, flat_takeI] at this
  rw [show ((L.drop l).take (h - l)).length = h - l by simp; omega]
  exact this
theorem short_sorted {L : List SpI} (h : L.length < 2) : L.Pairwise ltI ∧ ∀ y, y ∈ L ↔ First L y := by
  match L, h with
  | [], _ => exact ⟨.nil, fun y => ⟨fun h => by simp at h, fun h => h.mem⟩⟩
  | [x], _ => exact ⟨by simp, fun y => ⟨fun h => by simp at h; subst h; exact ⟨[], [], rfl, by simp⟩, fun h => h.mem⟩⟩
def eqC (A : List SpI) (i : Nat) (y : SpI) : Bool := match A[i]? with
  | some x => decide (x.1 = y.1) && decide (x.2.1 = y.2.1)
  | none => false
theorem eqC_t {A : List SpI} {i : Nat} {y : SpI} (h : eqC A i y = true) : ∃ x, A[i]? = some x ∧ cellI x = cellI y := by
  unfold eqC at h
  split at h
  · rename_i x hx
    rw [Bool.and_eq_true, decide_eq_true_iff, decide_eq_true_iff] at h
    exact ⟨x, hx, by unfold cellI; rw [h.1, h.2]⟩
  · cases h
theorem eqC_f {A : List SpI} {i : Nat} {x y : SpI} (h : eqC A i y = false) (hx : A[i]? = some x) : cellI x ≠ cellI y := by
  intro e
  unfold eqC at h
  rw [hx] at h
  simp only [cellI, Prod.mk.injEq] at e
  simp [e.1, e.2] at h
set_option maxHeartbeats 8000000 in
theorem run57 {X : Ctx} (hX : X.fns = fnsOf Try.prog) (ho : ∀ f args, f ≠ 15 ∧ f ≠ 38 → X.orc f args = none) (N : Nat) : ∀ {s0 s : Mm} {l : List HP} {v : Value} {L : List SpI}, L.length < N → Hold s0 s l → SlC s 3 v L.length (L.flatMap eI) → L.length ≤ 5864062014634 →
    CallP X 57 [v] s (fun r s' => ∃ out : List SpI, (out.Pairwise ltI ∧ ∀ y, y ∈ out ↔ First L y) ∧ out.length ≤ L.length ∧ Hold s0 s' (HP.own 3 r out.length (out.flatMap eI) :: l)) := by
  induction N with
  | zero => intro s0 s l v L hN; omega
  | succ N ih =>
    intro s0 s l v L hN H0 a hL
    refine CallP_of (hX ▸ ir57_eq) (ho _ _ (by decide)) (Nat.le_of_ble_eq_true rfl) ?_
    refine qak (qan [0] ?_)
    simp only [o57_0, qah, qaj, qad, frame_nil, qbc, qae, qab, qaa, qac, Nat.reduceEqDiff, ↓reduceIte, eq_self, Nat.zero_add]
    intro fr e0
    refine qai ?_
    refine qau ?_
    refine qak (qan [0, 10] ?_)
    simp only [o57_1, qao, WO_bu, qah, bin_lss, qaj, qag, qad, qaf, qae, qab, qaa, qac, List.map_cons, List.map_nil, Nat.reduceEqDiff, ↓reduceIte, eq_self, e0, a.len]
    clear e0
    intro fr e0 e10
    refine qai ?_
    by_cases h2 : L.length < 2
    · refine qak (W_if e10 (fun _ => ?_) (fun h => absurd h (by omega)))
      have hb0 : buildSlV s 3 [.int .i64 0, .int .i64 0, .float .f64 0] 0 [] = some (.slice (some ⟨s.nxt, 0, none⟩) 0 0, .cells [] false) := rfl
      have H1 := (((Hold.refl s).new []).cellOwn (sz := 3) (n := 0) rfl (by decide))
      have r1 := a.same H1.same (fun _ _ h => h)
      obtain ⟨v1, s2, ap1, H2⟩ := H1.append (bytes := 24) r1.src (eI_len _) (eI_one _) (by omega) (by decide) (by omega) (by omega) (by omega)
      simp only [Nat.zero_add, List.nil_append] at H2
      refine qak (qan [2] ?_)
      simp only [o57_2, WO_append, WO_buildSlice, qah, qaj, MemK_some, NewK_some, qad, qaf, qab, qaa, qac, List.map_nil, Nat.reduceEqDiff, ↓reduceIte, eq_self, e0, hb0, ap1]
      clear e0 e10
      intro fr e2
      refine qai ?_
      exact W_ret (SeqK_r (Ret1 e2 ⟨L, short_sorted h2, Nat.le_refl _, H0.app H2⟩))
    refine qak (W_if e10 (fun h => absurd h (by omega)) (fun _ => W_skip (qai ?_)))
    obtain ⟨m, hm⟩ : ∃ m, m = L.length / 2 := ⟨_, rfl⟩
    have q0 : ((L.length : Nat) : Int).tdiv 2 = ((m : Nat) : Int) := by rw [Int.tdiv_eq_ediv_of_nonneg (by omega)]; omega
    have w0 := qal (n := ((m : Nat) : Int)) (by omega) (by omega)
    have hsl0 := a.sl0 (k2 := .i64) (j := ((m : Nat) : Int)) rfl (by omega)
    have hd0 : (L.drop 0).take (m - 0) = L.take m := by simp
    have a0 := subI a (l := 0) (h := m) (by omega) (by omega)
    rw [hd0] at a0
    refine qak (qan [0, 3] ?_)
    simp only [o57_3, qao, WO_bu, WO_call, qah, WO_slSl, bin_quo, qag, qad, qaf, qae, List.map_cons, List.map_nil, Option.map_some, Option.map_none, Nat.reduceEqDiff, ↓reduceIte, Int.reduceEq, eq_self, e0, a.len, q0, w0, hsl0]
    refine CallK_of (ih (by simp; omega) (Hold.refl s) a0 (by simp; omega)) ?_
    rintro va s1 ⟨A, hA, hAl, H1⟩
    simp only [qah, qaj, qad, qaf, qab, qaa, qac, Nat.reduceEqDiff, ↓reduceIte, eq_self, e0]
    clear e0 e10
    intro fr e0 e3
    refine qai ?_
    have a1 := a.same H1.same (fun _ _ h => h)
    have hslE := a1.slE (k1 := .i64) (i := ((m : Nat) : Int)) rfl (by omega)
    have hd1 : (L.drop m).take (L.length - m) = L.drop m := by rw [List.take_of_length_le (by simp)]
    have a2 := subI a1 (l := m) (h := L.length) (by omega) (by omega)
    rw [hd1] at a2
    refine qak (qan [3, 4] ?_)
    simp only [o57_4, qao, WO_bu, WO_call, qah, WO_slSl, bin_quo, qag, qad, qaf, qae, List.map_cons, List.map_nil, Option.map_some, Option.map_none, Nat.reduceEqDiff, ↓reduceIte, Int.reduceEq, eq_self, e0, a1.len, q0, w0, hslE]
    refine CallK_of (ih (by simp; omega) H1 a2 (by simp; omega)) ?_
    rintro vb s2 ⟨B, hB, hBl, H2⟩
    simp only [qah, qaj, qad, qaf, qab, qaa, qac, Nat.reduceEqDiff, ↓reduceIte, eq_self, e3]
    clear e0 e3
    intro fr e3 e4
    refine qai ?_
    clear a a0 a1 a2 hsl0 hslE H1
    rw [List.length_take] at hAl
    rw [List.length_drop] at hBl
    have H3 := H2.nil 3
    refine qak (qan [3, 4, 5] ?_)
    simp only [o57_5, qah, qaj, qad, qae, qab, qaa, qac, Nat.reduceEqDiff, ↓reduceIte, eq_self, e3, e4]
    clear e3 e4
    intro fr e3 e4 e5
    refine qai ?_
    refine qak (qan [3, 4, 5, 6] ?_)
    simp only [o57_6, qah, qaj, qad, qae, qab, qaa, qac, Nat.reduceEqDiff, ↓reduceIte, eq_self, e3, e4, e5]
    clear e3 e4 e5
    intro fr e3 e4 e5 e6
    refine qai ?_
    refine qau ?_
    refine qak (qan [3, 4, 5, 6, 7] ?_)
    simp only [o57_7, qah, qaj, qad, qae, qab, qaa, qac, Nat.reduceEqDiff, ↓reduceIte, eq_self, e3, e4, e5, e6]
    clear e3 e4 e5 e6
    intro fr e3 e4 e5 e6 e7
    refine qai ?_
    refine qak (qat (W_loop (fun n fr s3 => ∃ (i k : Nat) (ov : Value) (out : List SpI), k + n = B.length ∧ i ≤ A.length ∧ Mrg A B i k out ∧ out.length ≤ i + k ∧ geT fr 3 = va ∧ geT fr 4 = vb ∧ geT fr 5 = ov ∧ geT fr 6 = .int .i64 (i : Nat) ∧ geT fr 7 = .int .i64 (k : Nat) ∧
      Hold s s3 [HP.own 3 ov out.length (out.flatMap eI), HP.own 3 vb B.length (B.flatMap eI), HP.own 3 va A.length (A.flatMap eI)]) B.length ⟨0, 0, _, [], by omega, by omega, Mrg.start A B, by simp, e3, e4, e5, e6, e7, H3⟩ ?_))
    clear e3 e4 e5 e6 e7 fr H2 H3 s2 s1
    rintro n fr s3 ⟨i, k, ov, out, hk, hi, hM, hol, e3, e4, e5, e6, e7, H⟩
    have sb := (H.own (sz := 3) (v := vb) (n := B.length) (cs := B.flatMap eI) (by simp)).slc
    refine qau ?_
    refine qak (qan [3, 4, 5, 6, 7, 29] ?_)
    simp only [o57_9, qao, WO_bu, qah, bin_lss, qaj, qag, qad, qaf, qab, qaa, qac, List.map_cons, List.map_nil, Nat.reduceEqDiff, ↓reduceIte, eq_self, e3, e4, e5, e6, e7, sb.len]
    clear e3 e4 e5 e6 e7
    intro fr e3 e4 e5 e6 e7 e29
    refine qai ?_
    refine W_while e29 (fun hlt => ?_) (fun hlt => ?_)
    · have hkB : k < B.length := by omega
      clear sb
      refine qak (qat ?_)
      have hBk : B[k]? = some (atI B k) := by rw [atI_eq hkB, List.getElem?_eq_getElem hkB]
      refine qak (W_cutN (fun fr s3 => ∃ (i : Nat) (ov : Value) (out : List SpI), i ≤ A.length ∧ (∀ x, A[i]? = some x → ¬ ltI x (atI B k)) ∧ Mrg A B i k out ∧ out.length ≤ i + k ∧ geT fr 3 = va ∧ geT fr 4 = vb ∧ geT fr 5 = ov ∧ geT fr 6 = .int .i64 (i : Nat) ∧ geT fr 7 = .int .i64 (k : Nat) ∧
        Hold s s3 [HP.own 3 ov out.length (out.flatMap eI), HP.own 3 vb B.length (B.flatMap eI), HP.own 3 va A.length (A.flatMap eI)]) ?_ ?_)
      · intro R' hR'
        refine qat (W_loop (fun n fr s3 => ∃ (i : Nat) (ov : Value) (out : List SpI), i + n = A.length ∧ Mrg A B i k out ∧ out.length ≤ i + k ∧ geT fr 3 = va ∧ geT fr 4 = vb ∧ geT fr 5 = ov ∧ geT fr 6 = .int .i64 (i : Nat) ∧ geT fr 7 = .int .i64 (k : Nat) ∧
          Hold s s3 [HP.own 3 ov out.length (out.flatMap eI), HP.own 3 vb B.length (B.flatMap eI), HP.own 3 va A.length (A.flatMap eI)]) (A.length - i) ⟨i, ov, out, by omega, hM, hol, e3, e4, e5, e6, e7, H⟩ ?_)
        clear e3 e4 e5 e6 e7 e29 fr H hM hol hi ov out i s3
        rintro n2 fr s3 ⟨i, ov, out, hi, hM, hol, e3, e4, e5, e6, e7, H⟩
        have sa := (H.own (sz := 3) (v := va) (n := A.length) (cs := A.flatMap eI) (by simp)).slc
        have sb := (H.own (sz := 3) (v := vb) (n := B.length) (cs := B.flatMap eI) (by simp)).slc
        obtain ⟨B1, L1⟩ := spots_at sb hkB rfl
        refine qau ?_
        by_cases hiA : i < A.length
        · obtain ⟨A1, L2⟩ := spots_at sa hiA rfl
          have hAi : A[i]? = some (atI A i) := by rw [atI_eq hiA, List.getElem?_eq_getElem hiA]
          refine qak (qbb [3, 4, 5, 6, 7, 46] rfl ?_)
          simp only [d57_11, qay, WD_bin, WD_bu, WD_call, WD_load, qba, bin_lss, want_v, wantB_t, qam, qas, qaw, qar, qap, qad, qaf, List.map_cons, List.map_nil, Nat.reduceEqDiff, Nat.reduceAdd, ↓reduceIte, eq_self, true_and, Nat.zero_add, e3, e4, e6, e7, WD_yes, sa.len, decide_eq_true (show ((i : Nat) : Int) < ((A.length : Nat) : Int) by omega), A1, L2, B1, L1]
          refine DCallK_of rfl (run53i hX ho) ?_
          rintro _ s4 ⟨rfl, hs4⟩
          have H' := H.keep hs4
          simp only [WD_pick, pick_b, WD_nil, qam, qar, qaq, qap, Nat.testBit, Nat.reduceShiftRight, Nat.reduceAnd, Nat.reduceBneDiff, List.all_nil, List.all_cons, List.filter_nil, List.filter_cons, qad, qaf, qae, qab, qaa, qac, Nat.reduceEqDiff, Nat.reduceAdd, ↓reduceIte, Bool.not_true, Bool.and_true, Bool.true_or, eq_self, Bool.false_eq_true, true_and, e3, e4, e5, e6, e7]
          clear e3 e4 e5 e6 e7
          intro fr e3 e4 e5 e6 e7 e46
          refine qai ?_
          refine qak (W_if e46 (fun hlt => W_skip (qai ?_)) (fun hlt => ?_))
          · refine qat ?_
            have sa' := (H'.own (sz := 3) (v := va) (n := A.length) (cs := A.flatMap eI) (by simp)).slc
            obtain ⟨A1', L2'⟩ := spots_at sa' hiA rfl
            have hbs : buildSlV s4 3 [.int .i64 0, .int .i64 0, .float .f64 0] 1 [(0, 3, sI (atI A i))] = some (.slice (some ⟨s4.nxt, 0, none⟩) 1 1, .cells (eI (atI A i)) false) := rfl
            obtain ⟨ov', s5, ap, H5⟩ := H'.push (bytes := 24) (new := eI (atI A i)) rfl rfl (by omega) (by decide) (by omega) (by omega) (by omega)
            refine qak (qan [3, 4, 5, 6, 7] ?_)
            simp only [o57_12, WO_addrSl, WO_append, WO_buildSlice, WO_load, qah, qaj, qag, MemK_some, NewK_some, qad, qaf, qab, qaa, qac, List.map_cons, List.map_nil, Nat.reduceEqDiff, ↓reduceIte, eq_self, Nat.zero_mul, e3, e4, e5, e6, e7, A1', L2', hbs, ap]
            clear e3 e4 e5 e6 e7
            intro fr e3 e4 e5 e6 e7
            refine qai ?_
            refine qan [3, 4, 5, 6, 7] ?_
            simp only [o57_13, qao, qah, qax, qaj, qag, qad, qaf, qae, qab, qaa, qac, Nat.reduceEqDiff, ↓reduceIte, eq_self, e3, e4, e5, e6, e7, qal (n := (i : Int) + 1) (by omega) (by omega)]
            clear e3 e4 e5 e6 e7
            intro fr e3 e4 e5 e6 e7
            rw [show out.flatMap eI ++ eI (atI A i) = (out ++ [atI A i]).flatMap eI by simp, show out.length + 1 = (out ++ [atI A i]).length by simp] at H5
            exact BlkK_n (LoopK_n (m' := n2 - 1) (by omega) ⟨i + 1, ov', out ++ [atI A i], by omega, hM.takeA hA.1 hB.1 hAi hBk hlt, by simp; omega, e3, e4, e5, by rw [e6]; rfl, e7, H5⟩)
          · refine W_exit (SeqK_x (LoopK_x (BlkK_e (hR' _ _ ⟨i, ov, out, by omega, fun x hx => ?_, hM, hol, e3, e4, e5, e6, e7, H'⟩))))
            rw [hAi] at hx; cases hx; exact hlt
        · refine qak (qbb [3, 4, 5, 6, 7, 46] rfl ?_)
          simp only [d57_11, WD_bin, WD_bu, qba, WD_pick, pick_b, bin_lss, want_v, wantB_t, WD_nil, qam, qaz, qav, qar, qaq, qap, Nat.testBit, List.all_nil, List.filter_nil, qad, qaf, qae, qab, qaa, qac, List.map_cons, List.map_nil, Nat.reduceEqDiff, Nat.reduceAdd, ↓reduceIte, eq_self, Bool.false_eq_true, true_and, Nat.zero_add, e3, e4, e5, e6, e7, WD_no_move, WD_no_addrSl, WD_no_load, WD_no_call, sa.len, decide_eq_false (show ¬ ((i : Nat) : Int) < ((A.length : Nat) : Int) by omega)]
          clear e3 e4 e5 e6 e7
          intro fr e3 e4 e5 e6 e7 e46
          refine qai ?_
          refine qak (W_cond e46 (fun h => absurd h (by decide)) (fun _ => W_exit (SeqK_x (LoopK_x (BlkK_e (hR' _ _ ⟨i, ov, out, by omega, fun x hx => ?_, hM, hol, e3, e4, e5, e6, e7, H⟩))))))
          rw [List.getElem?_eq_none (by omega)] at hx; cases hx
      clear e3 e4 e5 e6 e7 e29 fr H hM hol hi ov out i s3
      rintro fr s3 ⟨i, ov, out, hi, hno, hM, hol, e3, e4, e5, e6, e7, H⟩
      refine qai ?_
      refine qau ?_
      have sa := (H.own (sz := 3) (v := va) (n := A.length) (cs := A.flatMap eI) (by simp)).slc
      have sb := (H.own (sz := 3) (v := vb) (n := B.length) (cs := B.flatMap eI) (by simp)).slc
      obtain ⟨B1, L1⟩ := spots_at sb hkB rfl
      refine qak (W_cutN (fun fr s3' => s3 = s3' ∧ geT fr 3 = va ∧ geT fr 4 = vb ∧ geT fr 5 = ov ∧ geT fr 6 = .int .i64 (i : Nat) ∧ geT fr 7 = .int .i64 (k : Nat) ∧ geT fr 85 = .bool (eqC A i (atI B k))) ?_ ?_)
      · intro R' hR'
        by_cases hiA : i < A.length
        · obtain ⟨A1, _⟩ := spots_at sa hiA rfl
          have p0 := sa.fld (by omega : 0 < A.length) (i * 3) 0
          have p1 := sa.fld (by omega : 0 < A.length) (i * 3) 1
          have r0 := sb.fld (by omega : 0 < B.length) (k * 3) 0
          have r1 := sb.fld (by omega : 0 < B.length) (k * 3) 1
          rw [Nat.add_zero] at p0 r0
          obtain ⟨f0, f1, _⟩ := flatI hiA
          obtain ⟨g0, g1, _⟩ := flatI hkB
          have l0 := sa.load f0
          have l1 := sa.load f1
          have m0 := sb.load g0
          have m1 := sb.load g1
          have hfb : eqC A i (atI B k) = (decide ((atI A i).1 = (atI B k).1) && decide ((atI A i).2.1 = (atI B k).2.1)) := by unfold eqC; rw [atI_eq hiA, List.getElem?_eq_getElem hiA]
          cases hb : decide ((atI A i).1 = (atI B k).1) with
          | false =>
            refine qbb [3, 4, 5, 6, 7, 85] rfl ?_
            simp only [d57_14, qay, WD_bin, WD_bu, WD_fieldAddr, WD_load, qba, WD_pick, pick_b, bin_eql, bin_lss, want_v, wantB_t, WD_nil, qam, qas, qaw, qaq, qap, qad, qaf, qae, qab, qaa, qac, List.map_cons, List.map_nil, Nat.reduceEqDiff, Nat.reduceAdd, ↓reduceIte, eq_self, Bool.false_eq_true, true_and, Nat.zero_add, e3, e4, e5, e6, e7, WD_no_move, WD_no_bin, WD_no_addrSl, WD_no_load, WD_no_fieldAddr, WD_yes, sa.len, decide_eq_true (show ((i : Nat) : Int) < ((A.length : Nat) : Int) by omega), A1, B1, p0, r0, l0, m0, hb]
            clear e3 e4 e5 e6 e7
            intro fr e3 e4 e5 e6 e7 e85
            exact hR' _ _ ⟨rfl, e3, e4, e5, e6, e7, by rw [e85, hfb, hb]; rfl⟩
          | true =>
            refine qbb [3, 4, 5, 6, 7, 85] rfl ?_
            simp only [d57_14, qay, WD_bin, WD_bu, WD_fieldAddr, WD_load, qba, WD_pick, pick_b, bin_eql, bin_lss, want_v, wantB_t, WD_nil, qam, qas, qaw, qaq, qap, qad, qaf, qae, qab, qaa, qac, List.map_cons, List.map_nil, Nat.reduceEqDiff, Nat.reduceAdd, ↓reduceIte, eq_self, true_and, Nat.zero_add, e3, e4, e5, e6, e7, WD_yes, sa.len, decide_eq_true (show ((i : Nat) : Int) < ((A.length : Nat) : Int) by omega), A1, B1, p0, r0, l0, m0, hb, p1, r1, l1, m1]
            clear e3 e4 e5 e6 e7
            intro fr e3 e4 e5 e6 e7 e85
            exact hR' _ _ ⟨rfl, e3, e4, e5, e6, e7, by rw [e85, hfb, hb]; rfl⟩
        · have hfb : eqC A i (atI B k) = false := by unfold eqC; rw [List.getElem?_eq_none (by omega)]
          refine qbb [3, 4, 5, 6, 7, 85] rfl ?_
          simp only [d57_14, WD_bin, WD_bu, qba, WD_pick, pick_b, bin_lss, want_v, wantB_t, WD_nil, qam, qaq, qap, qad, qaf, qae, qab, qaa, qac, List.map_cons, List.map_nil, Nat.reduceEqDiff, Nat.reduceAdd, ↓reduceIte, eq_self, Bool.false_eq_true, Nat.zero_add, e3, e4, e5, e6, e7, WD_no_move, WD_no_bin, WD_no_addrSl, WD_no_load, WD_no_fieldAddr, sa.len, decide_eq_false (show ¬ ((i : Nat) : Int) < ((A.length : Nat) : Int) by omega)]
          clear e3 e4 e5 e6 e7
          intro fr e3 e4 e5 e6 e7 e85
          exact hR' _ _ ⟨rfl, e3, e4, e5, e6, e7, by rw [e85, hfb]⟩
      clear e3 e4 e5 e6 e7 fr
      rintro fr _ ⟨rfl, e3, e4, e5, e6, e7, e85⟩
      refine qai ?_
      cases hq : eqC A i (atI B k) with
      | true =>
        rw [hq] at e85
        refine qak (W_cond e85 (fun _ => W_exit (SeqK_x (BlkK_e (qai ?_)))) (fun h => by cases h))
        obtain ⟨x, hx, hxc⟩ := eqC_t hq
        refine qan [3, 4, 5, 6, 7] ?_
        simp only [o57_16, qao, qah, qax, qaj, qag, qad, qaf, qae, qab, qaa, qac, Nat.reduceEqDiff, ↓reduceIte, eq_self, e3, e4, e5, e6, e7, qal (n := (k : Int) + 1) (by omega) (by omega)]
        clear e3 e4 e5 e6 e7
        intro fr e3 e4 e5 e6 e7
        exact LoopK_n (m' := n - 1) (by omega) ⟨i, k + 1, ov, out, by omega, hi, hM.skip hx hBk hxc, by omega, e3, e4, e5, e6, by rw [e7]; rfl, H⟩
      | false =>
        rw [hq] at e85
        refine qak (W_cond e85 (fun h => by cases h) (fun _ => W_skip (qai ?_)))
        have hbs : buildSlV s3 3 [.int .i64 0, .int .i64 0, .float .f64 0] 1 [(0, 3, sI (atI B k))] = some (.slice (some ⟨s3.nxt, 0, none⟩) 1 1, .cells (eI (atI B k)) false) := rfl
        obtain ⟨ov', s5, ap, H5⟩ := H.push (bytes := 24) (new := eI (atI B k)) rfl rfl (by omega) (by decide) (by omega) (by omega) (by omega)
        refine qan [3, 4, 5, 6, 7] ?_
        simp only [o57_15, WO_addrSl, WO_append, WO_buildSlice, WO_load, qah, qaj, qag, MemK_some, NewK_some, qad, qaf, qab, qaa, qac, List.map_cons, List.map_nil, Nat.reduceEqDiff, ↓reduceIte, eq_self, Nat.zero_mul, e3, e4, e5, e6, e7, B1, L1, hbs, ap]
        clear e3 e4 e5 e6 e7
        intro fr e3 e4 e5 e6 e7
        refine BlkK_n (qai ?_)
        refine qan [3, 4, 5, 6, 7] ?_
        simp only [o57_16, qao, qah, qax, qaj, qag, qad, qaf, qae, qab, qaa, qac, Nat.reduceEqDiff, ↓reduceIte, eq_self, e3, e4, e5, e6, e7, qal (n := (k : Int) + 1) (by omega) (by omega)]
        clear e3 e4 e5 e6 e7
        intro fr e3 e4 e5 e6 e7
        rw [show out.flatMap eI ++ eI (atI B k) = (out ++ [atI B k]).flatMap eI by simp, show out.length + 1 = (out ++ [atI B k]).length by simp] at H5
        exact LoopK_n (m' := n - 1) (by omega) ⟨i, k + 1, ov', out ++ [atI B k], by omega, hi, hM.takeB hA.1 hB.1 hBk (fun x hx => ⟨hno x hx, eqC_f hq hx⟩), by simp; omega, e3, e4, e5, e6, by rw [e7]; rfl, H5⟩
    · have hkB : k = B.length := by omega
      subst hkB
      refine LoopK_x (BlkK_e (qai ?_))
      have sa := (H.own (sz := 3) (v := va) (n := A.length) (cs := A.flatMap eI) (by simp)).slc
      have hsl := sa.slE (k1 := .i64) (i := ((i : Nat) : Int)) rfl hi
      have a2 := subI sa (l := i) (h := A.length) hi (Nat.le_refl _)
      rw [show (A.drop i).take (A.length - i) = A.drop i by rw [List.take_of_length_le (by simp)]] at a2
      obtain ⟨v1, s4, ap1, H4⟩ := H.append (bytes := 24) a2.src (eI_len _) (eI_one _) (by omega) (by decide) (by omega) (by omega) (by simp; omega)
      refine qak (qan [2] ?_)
      simp only [o57_17, WO_append, qah, WO_slSl, qaj, qag, MemK_some, qad, qaf, qab, qaa, qac, Option.map_some, Option.map_none, Nat.reduceEqDiff, ↓reduceIte, eq_self, e3, e5, e6, hsl, ap1]
      clear e3 e5 e6
      intro fr e2
      refine qai ?_
      have hF := hM.fin hA.1 hA.2 hB.2
      rw [List.take_append_drop] at hF
      have H5 := H4.up1.tail.up1.tail
      rw [show out.flatMap eI ++ (A.drop i).flatMap eI = (out ++ A.drop i).flatMap eI by simp, show out.length + (A.drop i).length = (out ++ A.drop i).length by simp] at H5
      exact W_ret (Ret1 e2 ⟨_, hF, by simp; omega, H0.app H5⟩)
end Go.Proofs.Ytpphomoijlilfaa.G

/- Peaks: what counts, walked. -/
namespace Go.Proofs.Ytpphomoijlilfaa.G
open Go Go.Vam Go.Hang
def okF (B : Int) (L : List SpI) : List SpI := L.filter fun x => decide (okI B x)
def okB (B : Int) (x : SpI) : Bool := (decide (x.1 ≥ 0) && decide (x.1 < B)) && decide (x.2.1 ≥ 0)
theorem okB_is (B : Int) (x : SpI) : okB B x = decide (okI B x) := by
  rw [Bool.eq_iff_iff, decide_eq_true_iff]
  unfold okB okI
  simp only [Bool.and_eq_true, decide_eq_true_iff, and_assoc, ge_iff_le]
theorem okF_step {B : Int} {L : List SpI} {k : Nat} (hk : k < L.length) : okF B (L.take (k + 1)) = if okB B (atI L k) then okF B (L.take k) ++ [atI L k] else okF B (L.take k) := by
  unfold okF
  rw [List.take_add_one, List.filter_append, List.getElem?_eq_getElem hk, ← atI_eq hk, okB_is]
  by_cases h : okI B (atI L k)
  · simp [h]
  · simp [h]
set_option maxHeartbeats 2000000 in
theorem run41 {X : Ctx} (hX : X.fns = fnsOf Try.prog) (ho : ∀ f args, f ≠ 15 ∧ f ≠ 38 → X.orc f args = none) {s0 s : Mm} {l : List HP} {v : Value} {L : List SpI} {B : Int} (H0 : Hold s0 s l) (a : SlC s 3 v L.length (L.flatMap eI)) (hL : L.length ≤ 5864062014634) :
    CallP X 41 [v, .int .i64 B] s (fun r s' => ∃ out : List SpI, (out.Pairwise ltI ∧ ∀ y, y ∈ out ↔ First (okF B L) y) ∧ out.length ≤ 5864062014634 ∧ Hold s0 s' (HP.own 3 r out.length (out.flatMap eI) :: l)) := by
  have H1 := (Hold.refl s).nil 3
  refine CallP_of (hX ▸ ir41_eq) (ho _ _ (by decide)) (Nat.le_of_ble_eq_true rfl) ?_
  refine qak (qan [0, 1] ?_)
  simp only [o41_0, qah, qaj, qad, frame_nil, qbc, qae, qab, qaa, qac, Nat.reduceEqDiff, Nat.reduceAdd, ↓reduceIte, eq_self, Nat.zero_add]
  intro fr e0 e1
  refine qai ?_
  refine qak (qan [0, 1, 5] ?_)
  simp only [o41_1, qah, qaj, qad, qae, qab, qaa, qac, Nat.reduceEqDiff, ↓reduceIte, eq_self, e0, e1]
  clear e0 e1
  intro fr e0 e1 e5
  refine qai ?_
  refine qau ?_
  refine qak (qan [0, 1, 5, 6] ?_)
  simp only [o41_2, qah, qaj, qad, qae, qab, qaa, qac, Nat.reduceEqDiff, ↓reduceIte, eq_self, e0, e1, e5]
  clear e0 e1 e5
  intro fr e0 e1 e5 e6
  refine qai ?_
  refine qak (qat (W_loop (fun m fr s1 => ∃ (k : Nat) (ov : Value), k + m = L.length ∧ geT fr 0 = v ∧ geT fr 1 = .int .i64 B ∧ geT fr 5 = ov ∧ geT fr 6 = .int .i64 (k : Nat) ∧
    Hold s s1 [HP.own 3 ov (okF B (L.take k)).length ((okF B (L.take k)).flatMap eI)]) L.length ⟨0, _, by omega, e0, e1, e5, e6, by simpa [okF] using H1⟩ ?_))
  clear e0 e1 e5 e6 fr H1
  rintro m fr s1 ⟨k, ov, hk, e0, e1, e5, e6, H⟩
  have hle : (okF B (L.take k)).length ≤ k := Nat.le_trans (List.length_filter_le ..) (by simp; omega)
  have a1 := a.same H.same (fun _ _ h => h)
  refine qau ?_
  refine qak (qan [0, 1, 5, 6, 10] ?_)
  simp only [o41_4, qao, WO_bu, qah, bin_lss, qaj, qag, qad, qaf, qab, qaa, qac, List.map_cons, List.map_nil, Nat.reduceEqDiff, ↓reduceIte, eq_self, e0, e1, e5, e6, a1.len]
  clear e0 e1 e5 e6
  intro fr e0 e1 e5 e6 e10
  refine qai ?_
  refine W_while e10 (fun hlt => ?_) (fun hlt => ?_)
  · have hkL : k < L.length := by omega
    obtain ⟨A1, L1⟩ := spots_at a1 hkL rfl
    have p0 := a1.fld (by omega : 0 < L.length) (k * 3) 0
    have p1 := a1.fld (by omega : 0 < L.length) (k * 3) 1
    rw [Nat.add_zero] at p0
    obtain ⟨f0, f1, _⟩ := flatI hkL
    have l0 := a1.load f0
    have l1 := a1.load f1
    have hst := okF_step (B := B) hkL
    refine qak (qat ?_)
    refine qak (W_opsB [0, 1, 5, 6, 35] (fun fr s' => s1 = s' ∧ geT fr 0 = v ∧ geT fr 1 = .int .i64 B ∧ geT fr 5 = ov ∧ geT fr 6 = .int .i64 (k : Nat) ∧ geT fr 35 = .bool (okB B (atI L k))) ?_ ?_)
    · intro R' hR'
      cases hb0 : decide ((atI L k).1 ≥ 0) with
      | false =>
        simp only [o41_5, WO_addrSl, qao, WO_fieldAddr, WO_load, qah, WO_pick, pick_b, bin_geq, qaj, qag, WO_guard, want_v, wantB_t, qad, qaf, qae, qab, qaa, qac, Nat.reduceEqDiff, ↓reduceIte, eq_self, Bool.false_eq_true, e0, e1, e5, e6, A1, p0, l0, hb0]
        intro fr e0 e1 e5 e6 e35
        exact hR' _ _ ⟨rfl, e0, e1, e5, e6, by rw [e35]; unfold okB; rw [hb0]; rfl⟩
      | true =>
        cases hb1 : decide ((atI L k).1 < B) with
        | false =>
          simp only [o41_5, WO_addrSl, qao, WO_fieldAddr, WO_load, qah, WO_pick, pick_b, bin_geq, bin_lss, qaj, qag, WO_guard, want_v, wantB_t, qad, qaf, qae, qab, qaa, qac, Nat.reduceEqDiff, ↓reduceIte, eq_self, Bool.false_eq_true, e0, e1, e5, e6, A1, p0, l0, hb0, hb1]
          intro fr e0 e1 e5 e6 e35
          exact hR' _ _ ⟨rfl, e0, e1, e5, e6, by rw [e35]; unfold okB; rw [hb0, hb1]; rfl⟩
        | true =>
          simp only [o41_5, WO_addrSl, qao, WO_fieldAddr, WO_load, qah, WO_pick, pick_b, bin_geq, bin_lss, qaj, qag, WO_guard, want_v, wantB_t, qad, qaf, qae, qab, qaa, qac, Nat.reduceEqDiff, ↓reduceIte, eq_self, e0, e1, e5, e6, A1, p0, l0, hb0, hb1, p1, l1]
          intro fr e0 e1 e5 e6 e35
          exact hR' _ _ ⟨rfl, e0, e1, e5, e6, by rw [e35]; unfold okB; rw [hb0, hb1]; rfl⟩
    clear e0 e1 e5 e6 e10 fr
    rintro fr _ ⟨rfl, e0, e1, e5, e6, e35⟩
    refine qai ?_
    cases hq : okB B (atI L k) with
    | true =>
      rw [hq] at e35 hst
      rw [if_pos rfl] at hst
      refine W_cond e35 (fun _ => ?_) (fun h => by cases h)
      have hbs : buildSlV s1 3 [.int .i64 0, .int .i64 0, .float .f64 0] 1 [(0, 3, sI (atI L k))] = some (.slice (some ⟨s1.nxt, 0, none⟩) 1 1, .cells (eI (atI L k)) false) := rfl
      obtain ⟨ov', s5, ap, H5⟩ := H.push (bytes := 24) (new := eI (atI L k)) rfl rfl (by omega) (by decide) (by omega) (by omega) (by omega)
      refine qan [0, 1, 5, 6] ?_
      simp only [o41_6, WO_addrSl, WO_append, WO_buildSlice, WO_load, qah, qaj, qag, MemK_some, NewK_some, qad, qaf, qab, qaa, qac, List.map_cons, List.map_nil, Nat.reduceEqDiff, ↓reduceIte, eq_self, Nat.zero_mul, e0, e1, e5, e6, A1, L1, hbs, ap]
      clear e0 e1 e5 e6
      intro fr e0 e1 e5 e6
      refine BlkK_n (qai ?_)
      refine qan [0, 1, 5, 6] ?_
      simp only [o41_7, qao, qah, qax, qaj, qag, qad, qaf, qae, qab, qaa, qac, Nat.reduceEqDiff, ↓reduceIte, eq_self, e0, e1, e5, e6, qal (n := (k : Int) + 1) (by omega) (by omega)]
      clear e0 e1 e5 e6
      intro fr e0 e1 e5 e6
      rw [show (okF B (L.take k)).flatMap eI ++ eI (atI L k) = (okF B (L.take (k + 1))).flatMap eI by rw [hst]; simp, show (okF B (L.take k)).length + 1 = (okF B (L.take (k + 1))).length by rw [hst]; simp] at H5
      exact LoopK_n (m' := m - 1) (by omega) ⟨k + 1, ov', by omega, e0, e1, e5, by rw [e6]; rfl, H5⟩
    | false =>
      rw [hq] at e35 hst
      rw [if_neg (by decide)] at hst
      refine W_cond e35 (fun h => by cases h) (fun _ => W_skip (BlkK_n (qai ?_)))
      refine qan [0, 1, 5, 6] ?_
      simp only [o41_7, qao, qah, qax, qaj, qag, qad, qaf, qae, qab, qaa, qac, Nat.reduceEqDiff, ↓reduceIte, eq_self, e0, e1, e5, e6, qal (n := (k : Int) + 1) (by omega) (by omega)]
      clear e0 e1 e5 e6
      intro fr e0 e1 e5 e6
      exact LoopK_n (m' := m - 1) (by omega) ⟨k + 1, ov, by omega, e0, e1, e5, by rw [e6]; rfl, by rw [hst]; exact H⟩
  · have hkL : k = L.length := by omega
    subst hkL
    rw [List.take_length] at H hle
    refine LoopK_x (BlkK_e (qai ?_))
    refine qak (qan [4] ?_)
    simp only [o41_8, WO_call, qah, qad, qaf, List.map_cons, List.map_nil, ↓reduceIte, eq_self, e5]
    refine CallK_of (run57 hX ho _ (L := okF B L) (Nat.lt_succ_self _) H (H.own (sz := 3) (v := ov) (n := (okF B L).length) (cs := (okF B L).flatMap eI) (by simp)).slc (by omega)) ?_
    rintro _ s2 ⟨out, h1, h2, H2⟩
    simp only [qah, qaj, qad, qaf, qab, qaa, qac, ↓reduceIte, eq_self]
    clear e0 e1 e5 e6
    intro fr e4
    refine qai ?_
    exact W_ret (Ret1 e4 ⟨out, h1, by omega, H0.app H2.up1.tail⟩)
end Go.Proofs.Ytpphomoijlilfaa.G

/- The document's neighbours are the program's: plain. -/
namespace Go.Proofs.Ytpphomoijlilfaa.G
open Go Go.Vam Go.Hang
theorem mem_cellsN {B : Int} {x : SpI} {c : Int × Int} : c ∈ cellsN B x 3 ↔ ∃ d e : Int, (d = -1 ∨ d = 0 ∨ d = 1) ∧ (e = -1 ∨ e = 0 ∨ e = 1) ∧ c = (cbI B (x.1 + d), wrapK .i64 (x.2.1 + e)) := by
  simp only [cellsN, rowN, cellN, List.mem_flatMap, List.mem_map, List.mem_range]
  constructor
  · rintro ⟨p, hp, k, hk, rfl⟩
    exact ⟨(p : Int) - 1, (k : Int) - 1, by omega, by omega, rfl⟩
  · rintro ⟨d, e, hd, he, rfl⟩
    refine ⟨(d + 1).toNat, by omega, (e + 1).toNat, by omega, ?_⟩
    rw [show (((d + 1).toNat : Nat) : Int) - 1 = d by omega, show (((e + 1).toNat : Nat) : Int) - 1 = e by omega]
theorem near_adj {B : Int} {x y : SpI} (hx : okI B x) (hy : okI B y) (wx : wI x) (wy : wI y) : cellI y ∈ cellsN B x 3 ↔ cellI y = cellI x ∨ adj B x y := by
  rw [adj_iff hx hy wx wy, mem_cellsN]
  obtain ⟨x1, x2, x3⟩ := hx
  obtain ⟨y1, y2, y3⟩ := hy
  obtain ⟨_, w1⟩ := wx
  obtain ⟨_, w2⟩ := wy
  constructor
  · rintro ⟨d, e, hd, he, hc⟩
    simp only [cellI, Prod.mk.injEq] at hc ⊢
    have hg := (wrap_back (y := y.2.1) ⟨x3, w1.2⟩ he ⟨y3, w2.2⟩).1 hc.2
    have hb := hc.1
    unfold cbI at hb
    unfold binsL binsR
    by_cases hsame : y.1 = x.1 ∧ y.2.1 = x.2.1
    · exact .inl hsame
    · refine .inr ⟨?_, by omega, fun e => hsame (by simpa using e)⟩
      rcases hd with rfl | rfl | rfl
      · right; left
        split at hb <;> split at hb <;> split <;> omega
      · left
        split at hb <;> split at hb <;> omega
      · right; right
        split at hb <;> split at hb <;> split <;> omega
  · intro h
    simp only [cellI, Prod.mk.injEq] at h ⊢
    have hgo : ∀ e : Int, (e = -1 ∨ e = 0 ∨ e = 1) → y.2.1 = x.2.1 + e → y.2.1 = wrapK .i64 (x.2.1 + e) := fun e he h => (wrap_back ⟨x3, w1.2⟩ he ⟨y3, w2.2⟩).2 h
    have hge : ∃ e : Int, (e = -1 ∨ e = 0 ∨ e = 1) ∧ y.2.1 = x.2.1 + e := ⟨y.2.1 - x.2.1, by omega, by omega⟩
    obtain ⟨e, he, hge⟩ := hge
    have hde : ∃ d : Int, (d = -1 ∨ d = 0 ∨ d = 1) ∧ y.1 = cbI B (x.1 + d) := by
      unfold binsL binsR at h
      rcases h with h | ⟨h | h | h, _⟩
      · refine ⟨0, by omega, ?_⟩
        unfold cbI; split <;> split <;> omega
      · refine ⟨0, by omega, ?_⟩
        unfold cbI; split <;> split <;> omega
      · refine ⟨-1, by omega, ?_⟩
        unfold cbI; split at h <;> split <;> split <;> omega
      · refine ⟨1, by omega, ?_⟩
        unfold cbI; split at h <;> split <;> split <;> omega
    obtain ⟨d, hd, hde⟩ := hde
    exact ⟨d, e, hd, he, hde, hgo e he hge⟩
end Go.Proofs.Ytpphomoijlilfaa.G

/- Groups by numbers: plain. -/
namespace Go.Proofs.Ytpphomoijlilfaa.G
open Go Go.Vam Go.Hang
def updN (f : Nat → Nat) (j g : Nat) : Nat → Nat := fun i => if i = j then g else f i
def TN (all : List SpI) (num : Nat → Nat) (x : SpI) : Prop := ∃ j, all[j]? = some x ∧ num j ≠ 0
theorem at_some {all : List SpI} {j : Nat} (h : j < all.length) : all[j]? = some (atI all j) := by rw [atI_eq h, List.getElem?_eq_getElem h]
theorem at_mem {all : List SpI} {j : Nat} (h : j < all.length) : atI all j ∈ all := List.mem_of_getElem? (at_some h)
theorem mem_at {all : List SpI} {x : SpI} (h : x ∈ all) : ∃ j, j < all.length ∧ atI all j = x := by
  obtain ⟨j, hj, e⟩ := List.getElem_of_mem h
  exact ⟨j, hj, by rw [atI_eq hj, e]⟩
theorem at_inj {all : List SpI} (hs : all.Pairwise ltI) {i j : Nat} (hi : i < all.length) (hj : j < all.length) (h : cellI (atI all i) = cellI (atI all j)) : i = j := uniq_cell hs (at_some hi) (at_some hj) h
structure NF (all : List SpI) (B : Int) (num0 : Nat → Nat) (g : Nat) (x0 : SpI) (num : Nat → Nat) (q : List Nat) (k : Nat) : Prop where
  flood : Flood all (adj B) (TN all num0) x0 (q.map (atI all)) k
  lt : ∀ j ∈ q, j < all.length
  num : ∀ j, num j = if j ∈ q then g else num0 j
variable {all : List SpI} {B : Int} {num0 num : Nat → Nat} {g : Nat} {x0 : SpI} {q : List Nat} {k : Nat}
theorem tn_at (hs : all.Pairwise ltI) {j : Nat} (hj : j < all.length) : TN all num (atI all j) ↔ num j ≠ 0 := by
  constructor
  · rintro ⟨i, h1, h2⟩
    have hi := (List.getElem?_eq_some_iff.1 h1).1
    have := uniq_cell hs h1 (at_some hj) rfl
    subst this; exact h2
  · intro h; exact ⟨j, at_some hj, h⟩
theorem q_at (hs : all.Pairwise ltI) (hq : ∀ j ∈ q, j < all.length) {j : Nat} (hj : j < all.length) : atI all j ∈ q.map (atI all) ↔ j ∈ q := by
  constructor
  · intro h
    obtain ⟨i, hi, e⟩ := List.mem_map.1 h
    have := at_inj hs (hq i hi) hj (by rw [e])
    subst this; exact hi
  · exact fun h => List.mem_map.2 ⟨j, h, rfl⟩
theorem NF.start (hs : all.Pairwise ltI) {i : Nat} (hi : i < all.length) (h0 : num0 i = 0) : NF all B num0 g (atI all i) (updN num0 i g) [i] 0 :=
  ⟨Flood.start (at_mem hi) (fun h => (tn_at hs hi).1 h h0), fun j hj => by simp at hj; subst hj; exact hi, fun j => by simp [updN]⟩
theorem NF.len (h : NF all B num0 g x0 num q k) : q.length ≤ all.length := by
  have := len_le_of_sub _ _ h.flood.nodup fun x hx => (h.flood.sub x hx).1
  simpa using this
theorem NF.more (hs : all.Pairwise ltI) (h : NF all B num0 g x0 num q k) (hg : g ≠ 0) {m j : Nat} (hm : q[k]? = some m) (hj : j < all.length) (h0 : num j = 0) (hr : adj B (atI all m) (atI all j)) : NF all B num0 g x0 (updN num j g) (q ++ [j]) k := by
  have hjq : j ∉ q := fun hq => hg (by rw [← h0, h.num j, if_pos hq])
  have h00 : num0 j = 0 := by rw [← h0, h.num j, if_neg hjq]
  refine ⟨?_, fun i hi => ?_, fun i => ?_⟩
  · rw [List.map_append]
    exact h.flood.more (y := atI all m) (by rw [List.getElem?_map, hm]; rfl) (at_mem hj) hr (fun ht => (tn_at hs hj).1 ht h00) (fun hq => hjq ((q_at hs h.lt hj).1 hq))
  · rcases List.mem_append.1 hi with hi | hi
    · exact h.lt i hi
    · simp at hi; subst hi; exact hj
  · unfold updN
    by_cases e : i = j
    · subst e; simp
    · rw [if_neg e, h.num i]
      simp [e]
theorem NF.next (hs : all.Pairwise ltI) (hok : ∀ x ∈ all, okI B x ∧ wI x) (hcl : ∀ x ∈ all, TN all num0 x → ∀ y ∈ all, adj B x y → TN all num0 y) (h : NF all B num0 g x0 num q k) {m : Nat} (hm : q[k]? = some m) (hd : ∀ j, j < all.length → cellI (atI all j) ∈ cellsN B (atI all m) 3 → num j ≠ 0) :
    NF all B num0 g x0 num q (k + 1) := by
  have hmq := List.mem_of_getElem? hm
  have hml := h.lt m hmq
  refine ⟨h.flood.next (y := atI all m) (by rw [List.getElem?_map, hm]; rfl) fun z hz hr => ?_, h.lt, h.num⟩
  obtain ⟨j, hj, rfl⟩ := mem_at hz
  rw [q_at hs h.lt hj]
  have hn := hd j hj ((near_adj (hok _ (at_mem hml)).1 (hok _ hz).1 (hok _ (at_mem hml)).2 (hok _ hz).2).2 (.inr hr))
  rw [h.num j] at hn
  by_cases hjq : j ∈ q
  · exact hjq
  · rw [if_neg hjq] at hn
    have := hcl _ hz ((tn_at hs hj).2 hn) _ (at_mem hml) (adj_symm (hok _ (at_mem hml)).1 (hok _ hz).1 (hok _ (at_mem hml)).2 (hok _ hz).2 hr)
    exact absurd this (h.flood.sub _ (List.mem_map.2 ⟨m, hmq, rfl⟩)).2.2
theorem NF.beside (hs : all.Pairwise ltI) (hok : ∀ x ∈ all, okI B x ∧ wI x) (h : NF all B num0 g x0 num q k) (hg : g ≠ 0) {m j : Nat} (hm : q[k]? = some m) (hj : j < all.length) (h0 : num j = 0) (hc : cellI (atI all j) ∈ cellsN B (atI all m) 3) : adj B (atI all m) (atI all j) := by
  have hmq := List.mem_of_getElem? hm
  have hml := h.lt m hmq
  rcases (near_adj (hok _ (at_mem hml)).1 (hok _ (at_mem hj)).1 (hok _ (at_mem hml)).2 (hok _ (at_mem hj)).2).1 hc with e | e
  · have := at_inj hs hj hml e
    subst this
    rw [h.num j, if_pos hmq] at h0
    exact absurd h0 hg
  · exact e
structure NO (all : List SpI) (B : Int) (num : Nat → Nat) (g i : Nat) : Prop where
  le : ∀ j, j < all.length → num j ≤ g
  done : ∀ j, j < i → num j ≠ 0
  whole : ∀ j, j < all.length → num j ≠ 0 → ∀ z, (∃ j', j' < all.length ∧ num j' = num j ∧ atI all j' = z) ↔ z ∈ all ∧ Hang.Reach all (adj B) (atI all j) z
  ne : ∀ c, 1 ≤ c → c ≤ g → ∃ j, j < i ∧ num j = c
  order : ∀ j', j' < all.length → ∀ c, 1 ≤ c → c < num j' → ∃ j, j < j' ∧ num j = c
theorem NO.start (all : List SpI) (B : Int) : NO all B (fun _ => 0) 0 0 :=
  ⟨fun _ _ => Nat.le_refl _, fun j hj => absurd hj (Nat.not_lt_zero j), fun j _ h => absurd rfl h, fun c h1 h2 => absurd (Nat.le_trans h1 h2) (by omega), fun j' _ c _ h => absurd h (Nat.not_lt_zero c)⟩
theorem NO.closed (hs : all.Pairwise ltI) {i : Nat} (h : NO all B num g i) : ∀ x ∈ all, TN all num x → ∀ y ∈ all, adj B x y → TN all num y := by
  intro x hx ht y hy hr
  obtain ⟨j, hj, rfl⟩ := mem_at hx
  have hn := (tn_at hs hj).1 ht
  obtain ⟨j', h1, h2, rfl⟩ := (h.whole j hj hn y).2 ⟨hy, Hang.Reach.refl.step hy hr⟩
  exact (tn_at hs h1).2 (by rw [h2]; exact hn)
theorem NO.skip {i : Nat} (h : NO all B num g i) (hi : num i ≠ 0) : NO all B num g (i + 1) :=
  ⟨h.le, fun j hj => by
    by_cases e : j = i
    · subst e; exact hi
    · exact h.done j (by omega), h.whole, fun c h1 h2 => by
    obtain ⟨j, h3, h4⟩ := h.ne c h1 h2
    exact ⟨j, by omega, h4⟩, h.order⟩
theorem NO.add (hs : all.Pairwise ltI) (hok : ∀ x ∈ all, okI B x ∧ wI x) {i : Nat} {num' : Nat → Nat} (h : NO all B num g i) (hi : i < all.length) (h0 : num i = 0) (hF : NF all B num (g + 1) (atI all i) num' q q.length) : NO all B num' (g + 1) (i + 1) := by
  have hsy : ∀ x ∈ all, ∀ y ∈ all, adj B x y → adj B y x := fun x hx y hy hr => adj_symm (hok x hx).1 (hok y hy).1 (hok x hx).2 (hok y hy).2 hr
  have hz : ∀ j ∈ q, num j = 0 := fun j hj => by
    have := (hF.flood.sub _ (List.mem_map.2 ⟨j, hj, rfl⟩)).2.2
    rw [tn_at hs (hF.lt j hj)] at this
    omega
  have hiq : i ∈ q := (q_at hs hF.lt hi).1 hF.flood.hx
  have hW := hF.flood
  rw [show q.length = (q.map (atI all)).length by simp] at hW
  have hold : ∀ j c, num j = c → c ≠ 0 → num' j = c := fun j c e hc => by
    rw [hF.num j, if_neg (fun hq => hc (by rw [← e]; exact hz j hq)), e]
  refine ⟨fun j hj => ?_, fun j hj => ?_, fun j hj hn z => ?_, fun c h1 h2 => ?_, fun j' hj' c h1 h2 => ?_⟩
  · rw [hF.num j]
    split
    · exact Nat.le_refl _
    · exact Nat.le_succ_of_le (h.le j hj)
  · rw [hF.num j]
    split
    · omega
    · rename_i hq
      by_cases e : j = i
      · subst e; exact absurd hiq hq
      · exact h.done j (by omega)
  · by_cases hjq : j ∈ q
    · rw [hF.num j, if_pos hjq]
      have hrj := (hF.flood.sub _ (List.mem_map.2 ⟨j, hjq, rfl⟩)).2.1
      have h1 : (∃ j', j' < all.length ∧ num' j' = g + 1 ∧ atI all j' = z) ↔ z ∈ q.map (atI all) := by
        rw [List.mem_map]
        constructor
        · rintro ⟨j', a1, a2, a3⟩
          refine ⟨j', ?_, a3⟩
          rw [hF.num j'] at a2
          by_cases hq : j' ∈ q
          · exact hq
          · rw [if_neg hq] at a2
            have := h.le j' a1
            omega
        · rintro ⟨j', a1, a2⟩
          exact ⟨j', hF.lt j' a1, by rw [hF.num j', if_pos a1], a2⟩
      rw [h1, hW.whole z]
      constructor
      · rintro ⟨a, b⟩; exact ⟨a, (hrj.symm hsy (at_mem hi)).trans b⟩
      · rintro ⟨a, b⟩; exact ⟨a, hrj.trans b⟩
    · rw [hF.num j, if_neg hjq] at hn ⊢
      rw [← h.whole j hj hn z]
      have hle := h.le j hj
      constructor
      · rintro ⟨j', a1, a2, a3⟩
        refine ⟨j', a1, ?_, a3⟩
        rw [hF.num j'] at a2
        by_cases hq : j' ∈ q
        · rw [if_pos hq] at a2; omega
        · rw [if_neg hq] at a2; exact a2
      · rintro ⟨j', a1, a2, a3⟩
        exact ⟨j', a1, hold j' _ a2 hn, a3⟩
  · by_cases e : c = g + 1
    · subst e
      exact ⟨i, by omega, by rw [hF.num i, if_pos hiq]⟩
    · obtain ⟨j, a1, a2⟩ := h.ne c h1 (by omega)
      exact ⟨j, by omega, hold j c a2 (by omega)⟩
  · rw [hF.num j'] at h2
    by_cases hq : j' ∈ q
    · rw [if_pos hq] at h2
      obtain ⟨j, a1, a2⟩ := h.ne c h1 (by omega)
      have : ¬ j' < i := fun hlt => h.done j' hlt (hz j' hq)
      exact ⟨j, by omega, hold j c a2 (by omega)⟩
    · rw [if_neg hq] at h2
      obtain ⟨j, a1, a2⟩ := h.order j' hj' c h1 h2
      exact ⟨j, a1, hold j c a2 (by omega)⟩
def byN (all : List SpI) (num : Nat → Nat) (g k : Nat) : List (List SpI) := (List.range g).map fun c => ((List.range k).filter fun j => decide (num j = c + 1)).map (atI all)
theorem mem_grp {all : List SpI} {num : Nat → Nat} {c k : Nat} {z : SpI} : z ∈ ((List.range k).filter fun j => decide (num j = c + 1)).map (atI all) ↔ ∃ j, j < k ∧ num j = c + 1 ∧ atI all j = z := by
  simp only [List.mem_map, List.mem_filter, List.mem_range, decide_eq_true_iff, and_assoc]
theorem NO.parts (hs : all.Pairwise ltI) (h : NO all B num g all.length) : Parts all (adj B) ltI (byN all num g all.length) := by
  have sorted : ∀ c, (((List.range all.length).filter fun j => decide (num j = c + 1)).map (atI all)).Pairwise ltI := fun c => by
    rw [List.pairwise_map]
    have hr : (List.range all.length).Pairwise (· < ·) := List.pairwise_lt_range
    refine (hr.filter _).imp_of_mem ?_
    intro a b ha hb hab
    have ha := List.mem_range.1 (List.mem_filter.1 ha).1
    have hb := List.mem_range.1 (List.mem_filter.1 hb).1
    exact sorted_at hs (at_some ha) (at_some hb) hab
  refine ⟨fun G hG => ?_, fun G hG => ?_, fun G hG x hx y => ?_, fun x hx => ?_, ?_⟩
  · obtain ⟨c, hc, rfl⟩ := List.mem_map.1 hG
    obtain ⟨j, h1, h2⟩ := h.ne (c + 1) (by omega) (by have := List.mem_range.1 hc; omega)
    exact List.ne_nil_of_mem (mem_grp.2 ⟨j, h1, h2, rfl⟩)
  · obtain ⟨c, hc, rfl⟩ := List.mem_map.1 hG
    exact sorted c
  · obtain ⟨c, hc, rfl⟩ := List.mem_map.1 hG
    obtain ⟨j, h1, h2, rfl⟩ := mem_grp.1 hx
    rw [mem_grp, ← h.whole j h1 (by omega) y, h2]
  · obtain ⟨j, hj, rfl⟩ := mem_at hx
    have hn := h.done j hj
    have hle := h.le j hj
    exact ⟨_, List.mem_map.2 ⟨num j - 1, List.mem_range.2 (by omega), rfl⟩, mem_grp.2 ⟨j, hj, by omega, rfl⟩⟩
  · unfold byN
    rw [List.pairwise_map]
    have hr : (List.range g).Pairwise (· < ·) := List.pairwise_lt_range
    refine hr.imp_of_mem ?_
    intro a b ha hb hab
    have hbg := List.mem_range.1 hb
    have head : ∀ c, c < g → ∃ j, j < all.length ∧ num j = c + 1 ∧ (((List.range all.length).filter fun j => decide (num j = c + 1)).map (atI all)).head? = some (atI all j) := fun c hc => by
      obtain ⟨j0, h1, h2⟩ := h.ne (c + 1) (by omega) (by omega)
      have hm : atI all j0 ∈ ((List.range all.length).filter fun j => decide (num j = c + 1)).map (atI all) := mem_grp.2 ⟨j0, h1, h2, rfl⟩
      cases hl : ((List.range all.length).filter fun j => decide (num j = c + 1)).map (atI all) with
      | nil => rw [hl] at hm; simp at hm
      | cons y l =>
        have hy : y ∈ ((List.range all.length).filter fun j => decide (num j = c + 1)).map (atI all) := by rw [hl]; simp
        obtain ⟨j, a1, a2, rfl⟩ := mem_grp.1 hy
        exact ⟨j, a1, a2, rfl⟩
    obtain ⟨ja, a1, a2, a3⟩ := head a (by omega)
    obtain ⟨jb, b1, b2, b3⟩ := head b hbg
    refine ⟨_, _, a3, b3, ?_⟩
    obtain ⟨j, c1, c2⟩ := h.order jb b1 (a + 1) (by omega) (by omega)
    have hlt : ltI (atI all j) (atI all jb) := sorted_at hs (at_some (by omega)) (at_some b1) c1
    by_cases e : j = ja
    · subst e; exact hlt
    · have hm : atI all j ∈ ((List.range all.length).filter fun j => decide (num j = a + 1)).map (atI all) := mem_grp.2 ⟨j, by omega, c2, rfl⟩
      have hso := sorted a
      cases hl : ((List.range all.length).filter fun j => decide (num j = a + 1)).map (atI all) with
      | nil => rw [hl] at hm; simp at hm
      | cons y l =>
        rw [hl] at a3 hm hso
        simp only [List.head?_cons, Option.some.injEq] at a3
        subst a3
        rcases List.mem_cons.1 hm with e2 | e2
        · rw [← e2]; exact hlt
        · exact ltI_tr _ _ _ ((List.pairwise_cons.1 hso).1 _ e2) hlt
end Go.Proofs.Ytpphomoijlilfaa.G

/- Peaks: the document's flood, walked. -/
namespace Go.Proofs.Ytpphomoijlilfaa.G
open Go Go.Vam Go.Hang
def numV (n : Nat) (num : Nat → Nat) : List Value := (List.range n).map fun j => iV (num j)
theorem numV_len (n : Nat) (num : Nat → Nat) : (numV n num).length = n := by simp [numV]
theorem numV_at {n j : Nat} (num : Nat → Nat) (hj : j < n) : (numV n num)[j]? = some (.int .i64 (num j : Nat)) := by simp [numV, iV, hj]
theorem numV_set {n j : Nat} (num : Nat → Nat) (g : Nat) : (numV n num).set j (iV g) = numV n (updN num j g) := by
  refine List.ext_getElem? fun i => ?_
  rw [List.getElem?_set]
  unfold numV updN
  by_cases e : j = i
  · subst e
    by_cases hj : j < n
    · simp [hj]
    · simp [hj]
  · rw [if_neg e]
    by_cases hi : i < n
    · simp [hi, show ¬ i = j by omega]
    · simp [hi]
theorem mapV_at {q : List Nat} {k m : Nat} (h : q[k]? = some m) : (q.map iV)[k]? = some (.int .i64 (m : Nat)) := by rw [List.getElem?_map, h]; rfl
set_option maxHeartbeats 4000000 in
theorem loop18a {X : Ctx} (hX : X.fns = fnsOf Try.prog) (ho : ∀ f args, f ≠ 15 ∧ f ≠ 38 → X.orc f args = none) {fr : Fr} {s0 s : Mm} {l : List HP} {wv fv nv av ov : Value} {B w8 w11 : Value} {all : List SpI} {Bz : Int} {num0 num : Nat → Nat} {g k m : Nat} {x0 : SpI} {q ns : List Nat} {Q : AExit → Fr → Mm → Prop}
    (hs : all.Pairwise ltI) (hok : ∀ x ∈ all, okI Bz x ∧ wI x) (hall : all.length ≤ 5864062014634) (hns : NearL all (cellsN Bz (atI all m) 3) ns) (hnl : ns.length ≤ 9) (hg : g ≠ 0 ∧ g ≤ 5864062014635)
    (e1 : geT fr 1 = B) (e5 : geT fr 5 = av) (e6 : geT fr 6 = fv) (e7 : geT fr 7 = ov) (e8 : geT fr 8 = w8) (e9 : geT fr 9 = .int .i64 (g : Nat)) (e10 : geT fr 10 = wv) (e11 : geT fr 11 = w11) (e12 : geT fr 12 = nv) (e13 : geT fr 13 = .int .i64 0)
    (hF : NF all Bz num0 g x0 num q k) (hm : q[k]? = some m)
    (H : Hold s0 s (HP.own 1 wv q.length (q.map iV) :: HP.own 1 fv all.length (numV all.length num) :: HP.own 1 nv ns.length (ns.map iV) :: l))
    (hQ : ∀ fr s wv q num, geT fr 1 = B → geT fr 5 = av → geT fr 6 = fv → geT fr 7 = ov → geT fr 8 = w8 → geT fr 9 = .int .i64 (g : Nat) → geT fr 10 = wv → geT fr 11 = w11 →
      NF all Bz num0 g x0 num q k → q[k]? = some m → (∀ x ∈ ns, num x ≠ 0) → Hold s0 s (HP.own 1 wv q.length (q.map iV) :: HP.own 1 fv all.length (numV all.length num) :: HP.own 1 nv ns.length (ns.map iV) :: l) → Q .normal fr s) :
    W X (.block 4 (.loop b18_18)) fr s Q := by
  refine qat (W_loop (fun mm fr s1 => ∃ (j : Nat) (wv : Value) (q : List Nat) (num : Nat → Nat), j + mm = ns.length ∧ NF all Bz num0 g x0 num q k ∧ q[k]? = some m ∧ (∀ p x, p < j → ns[p]? = some x → num x ≠ 0) ∧
    geT fr 1 = B ∧ geT fr 5 = av ∧ geT fr 6 = fv ∧ geT fr 7 = ov ∧ geT fr 8 = w8 ∧ geT fr 9 = .int .i64 (g : Nat) ∧ geT fr 10 = wv ∧ geT fr 11 = w11 ∧ geT fr 12 = nv ∧ geT fr 13 = .int .i64 (j : Nat) ∧
    Hold s0 s1 (HP.own 1 wv q.length (q.map iV) :: HP.own 1 fv all.length (numV all.length num) :: HP.own 1 nv ns.length (ns.map iV) :: l)) ns.length ⟨0, wv, q, num, by omega, hF, hm, fun p x h => absurd h (Nat.not_lt_zero p), e1, e5, e6, e7, e8, e9, e10, e11, e12, e13, H⟩ ?_)
  clear e1 e5 e6 e7 e8 e9 e10 e11 e12 e13 fr H s hF hm wv q num
  rintro mm fr s1 ⟨j, wv, q, num, hj, hF, hm, hp, e1, e5, e6, e7, e8, e9, e10, e11, e12, e13, H⟩
  have sn := (H.own (sz := 1) (v := nv) (n := ns.length) (cs := ns.map iV) (by simp)).slc
  have sf := (H.own (sz := 1) (v := fv) (n := all.length) (cs := numV all.length num) (by simp)).slc
  refine qau ?_
  refine qak (qan [1, 5, 6, 7, 8, 9, 10, 11, 12, 13, 62] ?_)
  simp only [o18_19, qao, WO_bu, qah, bin_lss, qaj, qag, qad, qaf, qab, qaa, qac, List.map_cons, List.map_nil, Nat.reduceEqDiff, ↓reduceIte, eq_self, e1, e5, e6, e7, e8, e9, e10, e11, e12, e13, sn.len]
  clear e1 e5 e6 e7 e8 e9 e10 e11 e12 e13
  intro fr e1 e5 e6 e7 e8 e9 e10 e11 e12 e13 e62
  refine qai ?_
  refine W_while e62 (fun hlt => ?_) (fun hlt => ?_)
  · have hjl : j < ns.length := by omega
    obtain ⟨x, hx⟩ : ∃ x, ns[j]? = some x := ⟨ns[j], List.getElem?_eq_getElem hjl⟩
    obtain ⟨y, hy, hyc⟩ := hns.1 x (List.mem_of_getElem? hx)
    have hxl : x < all.length := (List.getElem?_eq_some_iff.1 hy).1
    have hya : y = atI all x := by have := at_some hxl; rw [hy] at this; exact Option.some.inj this
    have A1 := sn.addr (kk := .i64) (i := ((j : Nat) : Int)) rfl hjl
    have L1 := sn.load (mapV_at hx)
    have A2 := sf.addr (kk := .i64) (i := ((x : Nat) : Int)) rfl hxl
    have L2 := sf.load (numV_at num hxl)
    rw [Nat.mul_one] at A1 A2
    have d0 : decide (((num x : Nat) : Int) = 0) = decide (num x = 0) := decide_eq_decide.2 (by omega)
    refine qak (qat ?_)
    refine qak (qan [1, 5, 6, 7, 8, 9, 10, 11, 12, 13, 72] ?_)
    simp only [o18_20, WO_addrSl, qao, WO_load, qah, bin_eql, qaj, qag, qad, qaf, qae, qab, qaa, qac, Nat.reduceEqDiff, ↓reduceIte, eq_self, e1, e5, e6, e7, e8, e9, e10, e11, e12, e13, A1, L1, A2, L2, d0]
    clear e1 e5 e6 e7 e8 e9 e10 e11 e12 e13 e62
    intro fr e1 e5 e6 e7 e8 e9 e10 e11 e12 e13 e72
    refine qai ?_
    refine W_if e72 (fun h0 => ?_) (fun h0 => W_skip (BlkK_n (qai ?_)))
    · have hql := hF.len
      obtain ⟨s2, st, H2⟩ := (H.up1).store (k := x) (x := iV g) (by rw [numV_len]; exact hxl) rfl
      rw [numV_set] at H2
      have hbs : buildSlV s2 1 [.int .i64 0] 1 [(0, 1, .int .i64 (x : Nat))] = some (.slice (some ⟨s2.nxt, 0, none⟩) 1 1, .cells [.int .i64 (x : Nat)] false) := rfl
      have hr := hF.beside hs hok hg.1 hm hxl h0 (by rw [← hya]; exact hyc)
      have hF2 := hF.more hs hg.1 hm hxl h0 hr
      have hql2 := hF2.len
      simp only [List.length_append, List.length_cons, List.length_nil] at hql2
      obtain ⟨wv', s3, ap, H3⟩ := (H2.up1).push (bytes := 8) (new := [.int .i64 (x : Nat)]) rfl rfl (by omega) (by decide) (by omega) (by omega) (by omega)
      have sn2 := (H2.own (sz := 1) (v := nv) (n := ns.length) (cs := ns.map iV) (by simp)).slc
      have L1' := sn2.load (mapV_at hx)
      have hst : storeV s1 1 (elP fv x) (.int .i64 (g : Nat)) = some (undefV, s2) := st
      refine qak (qan [1, 5, 6, 7, 8, 9, 10, 11, 12, 13] ?_)
      simp only [o18_21, WO_addrSl, WO_load, qah, WO_store, qaj, qag, MemK_some, qad, puT_none, qaf, qab, qaa, qac, Nat.reduceEqDiff, ↓reduceIte, eq_self, e1, e5, e6, e7, e8, e9, e10, e11, e12, e13, A1, L1, A2, hst]
      clear e1 e5 e6 e7 e8 e9 e10 e11 e12 e13
      intro fr e1 e5 e6 e7 e8 e9 e10 e11 e12 e13
      refine qai ?_
      refine qan [1, 5, 6, 7, 8, 9, 10, 11, 12, 13] ?_
      simp only [o18_22, WO_addrSl, WO_append, WO_buildSlice, WO_load, qah, qaj, qag, MemK_some, NewK_some, qad, qaf, qab, qaa, qac, List.map_cons, List.map_nil, Nat.reduceEqDiff, ↓reduceIte, eq_self, Nat.mul_one, e1, e5, e6, e7, e8, e9, e10, e11, e12, e13, A1, L1', hbs, ap]
      clear e1 e5 e6 e7 e8 e9 e10 e11 e12 e13
      intro fr e1 e5 e6 e7 e8 e9 e10 e11 e12 e13
      refine BlkK_n (qai ?_)
      refine qan [1, 5, 6, 7, 8, 9, 10, 11, 12, 13] ?_
      simp only [o18_23, qao, qah, qax, qaj, qag, qad, qaf, qae, qab, qaa, qac, Nat.reduceEqDiff, ↓reduceIte, eq_self, e1, e5, e6, e7, e8, e9, e10, e11, e12, e13, qal (n := (j : Int) + 1) (by omega) (by omega)]
      clear e1 e5 e6 e7 e8 e9 e10 e11 e12 e13
      intro fr e1 e5 e6 e7 e8 e9 e10 e11 e12 e13
      rw [show q.map iV ++ [Value.int .i64 (x : Nat)] = (q ++ [x]).map iV by simp [iV], show q.length + 1 = (q ++ [x]).length by simp] at H3
      refine LoopK_n (m' := mm - 1) (by omega) ⟨j + 1, wv', q ++ [x], updN num x g, by omega, hF2, ?_, fun p z hp1 hz => ?_, e1, e5, e6, e7, e8, e9, e10, e11, e12, by rw [e13]; rfl, H3⟩
      · rw [List.getElem?_append_left (List.getElem?_eq_some_iff.1 hm).1]; exact hm
      · unfold updN
        split
        · exact hg.1
        · by_cases e : p = j
          · subst e; rw [hx] at hz; cases hz
            rename_i hne; exact absurd rfl hne
          · exact hp p z (by omega) hz
    · skip
      refine qan [1, 5, 6, 7, 8, 9, 10, 11, 12, 13] ?_
      simp only [o18_23, qao, qah, qax, qaj, qag, qad, qaf, qae, qab, qaa, qac, Nat.reduceEqDiff, ↓reduceIte, eq_self, e1, e5, e6, e7, e8, e9, e10, e11, e12, e13, qal (n := (j : Int) + 1) (by omega) (by omega)]
      clear e1 e5 e6 e7 e8 e9 e10 e11 e12 e13
      intro fr e1 e5 e6 e7 e8 e9 e10 e11 e12 e13
      refine LoopK_n (m' := mm - 1) (by omega) ⟨j + 1, wv, q, num, by omega, hF, hm, fun p z hp1 hz => ?_, e1, e5, e6, e7, e8, e9, e10, e11, e12, by rw [e13]; rfl, H⟩
      by_cases e : p = j
      · subst e; rw [hx] at hz; cases hz; exact h0
      · exact hp p z (by omega) hz
  · refine LoopK_x (BlkK_e (hQ _ _ wv q num e1 e5 e6 e7 e8 e9 e10 e11 hF hm (fun x hx => ?_) H))
    obtain ⟨p, hp1, e⟩ := List.getElem_of_mem hx
    exact hp p x (by omega) (by rw [List.getElem?_eq_getElem hp1, e])
set_option maxHeartbeats 4000000 in
theorem loop18b {X : Ctx} (hX : X.fns = fnsOf Try.prog) (ho : ∀ f args, f ≠ 15 ∧ f ≠ 38 → X.orc f args = none) {fr : Fr} {s0 s : Mm} {l : List HP} {wv fv av ov : Value} {w8 : Value} {all : List SpI} {B : Int} {num0 num : Nat → Nat} {g : Nat} {x0 : SpI} {q : List Nat} {Q : AExit → Fr → Mm → Prop}
    (hB : B ≤ 9223372036854775807) (hs : all.Pairwise ltI) (hok : ∀ x ∈ all, okI B x ∧ wI x) (hall : all.length ≤ 5864062014634) (hg : g ≠ 0 ∧ g ≤ 5864062014635) (hcl : ∀ x ∈ all, TN all num0 x → ∀ y ∈ all, adj B x y → TN all num0 y)
    (hav : HP.own 3 av all.length (all.flatMap eI) ∈ l)
    (e1 : geT fr 1 = .int .i64 B) (e5 : geT fr 5 = av) (e6 : geT fr 6 = fv) (e7 : geT fr 7 = ov) (e8 : geT fr 8 = w8) (e9 : geT fr 9 = .int .i64 (g : Nat)) (e10 : geT fr 10 = wv) (e11 : geT fr 11 = .int .i64 0)
    (hF : NF all B num0 g x0 num q 0)
    (H : Hold s0 s (HP.own 1 wv q.length (q.map iV) :: HP.own 1 fv all.length (numV all.length num) :: l))
    (hQ : ∀ fr s wv q num, geT fr 1 = .int .i64 B → geT fr 5 = av → geT fr 6 = fv → geT fr 7 = ov → geT fr 8 = w8 → 
      NF all B num0 g x0 num q q.length → Hold s0 s (HP.own 1 wv q.length (q.map iV) :: HP.own 1 fv all.length (numV all.length num) :: l) → Q .normal fr s) :
    W X (.block 2 (.loop b18_14)) fr s Q := by
  refine qat (W_loop (fun mm fr s1 => ∃ (k : Nat) (wv : Value) (q : List Nat) (num : Nat → Nat), k + mm = all.length + 1 ∧ k ≤ q.length ∧ NF all B num0 g x0 num q k ∧
    geT fr 1 = .int .i64 B ∧ geT fr 5 = av ∧ geT fr 6 = fv ∧ geT fr 7 = ov ∧ geT fr 8 = w8 ∧ geT fr 9 = .int .i64 (g : Nat) ∧ geT fr 10 = wv ∧ geT fr 11 = .int .i64 (k : Nat) ∧
    Hold s0 s1 (HP.own 1 wv q.length (q.map iV) :: HP.own 1 fv all.length (numV all.length num) :: l)) (all.length + 1) ⟨0, wv, q, num, by omega, Nat.zero_le _, hF, e1, e5, e6, e7, e8, e9, e10, e11, H⟩ ?_)
  clear e1 e5 e6 e7 e8 e9 e10 e11 fr H s hF wv q num
  rintro mm fr s1 ⟨k, wv, q, num, hk, hkq, hF, e1, e5, e6, e7, e8, e9, e10, e11, H⟩
  have hql := hF.len
  have sw := (H.own (sz := 1) (v := wv) (n := q.length) (cs := q.map iV) (by simp)).slc
  refine qau ?_
  refine qak (qan [1, 5, 6, 7, 8, 9, 10, 11, 46] ?_)
  simp only [o18_15, qao, WO_bu, qah, bin_lss, qaj, qag, qad, qaf, qab, qaa, qac, List.map_cons, List.map_nil, Nat.reduceEqDiff, ↓reduceIte, eq_self, e1, e5, e6, e7, e8, e9, e10, e11, sw.len]
  clear e1 e5 e6 e7 e8 e9 e10 e11
  intro fr e1 e5 e6 e7 e8 e9 e10 e11 e46
  refine qai ?_
  refine W_while e46 (fun hlt => ?_) (fun hlt => ?_)
  · have hk1 : k < q.length := by omega
    obtain ⟨m, hm⟩ : ∃ m, q[k]? = some m := ⟨q[k], List.getElem?_eq_getElem hk1⟩
    have hml := hF.lt m (List.mem_of_getElem? hm)
    have sa := (H.own (sz := 3) (v := av) (n := all.length) (cs := all.flatMap eI) (by simp [hav])).slc
    have A1 := sw.addr (kk := .i64) (i := ((k : Nat) : Int)) rfl hk1
    rw [Nat.mul_one] at A1
    have L1 := sw.load (mapV_at hm)
    obtain ⟨A2, L2⟩ := spots_at sa hml rfl
    refine qak (qat ?_)
    refine qak (qan [1, 5, 6, 7, 8, 9, 10, 11, 12] ?_)
    simp only [o18_16, WO_addrSl, WO_call, WO_load, qah, qag, qad, qaf, List.map_cons, List.map_nil, Nat.reduceEqDiff, ↓reduceIte, eq_self, e1, e5, e10, e11, A1, L1, A2, L2]
    refine CallK_of (run42 hX ho H sa hall hs (hok _ (at_mem hml)).1 hB) ?_
    rintro nv s2 ⟨ns, hns, hnl, H2⟩
    simp only [qah, qaj, qad, qaf, qab, qaa, qac, Nat.reduceEqDiff, ↓reduceIte, eq_self, e1, e5, e6, e7, e8, e9, e10, e11]
    clear e1 e5 e6 e7 e8 e9 e10 e11 e46
    intro fr e1 e5 e6 e7 e8 e9 e10 e11 e12
    refine qai ?_
    refine qak (qan [1, 5, 6, 7, 8, 9, 10, 11, 12, 13] ?_)
    simp only [o18_17, qah, qaj, qad, qae, qab, qaa, qac, Nat.reduceEqDiff, ↓reduceIte, eq_self, e1, e5, e6, e7, e8, e9, e10, e11, e12]
    clear e1 e5 e6 e7 e8 e9 e10 e11 e12
    intro fr e1 e5 e6 e7 e8 e9 e10 e11 e12 e13
    refine qai ?_
    refine loop18a hX ho hs hok hall hns hnl hg e1 e5 e6 e7 e8 e9 e10 e11 e12 e13 hF hm H2.down2 ?_
    clear e1 e5 e6 e7 e8 e9 e10 e11 e12 e13 fr H2 H sw sa A1 L1 A2 L2 hF hql hkq s1 s2 hk1 hlt
    intro fr s2 wv2 q2 num2 e1 e5 e6 e7 e8 e9 e10 e11 hF hm2 hnz H2
    have hF2 := hF.next hs hok hcl hm2 (fun j hj hc => hnz j (hns.2 j _ (at_some hj) hc))
    refine BlkK_n (qai ?_)
    have hq2 := hF.len
    have hk2 := (List.getElem?_eq_some_iff.1 hm2).1
    refine qan [1, 5, 6, 7, 8, 9, 10, 11] ?_
    simp only [o18_24, qao, qah, qax, qaj, qag, qad, qaf, qae, qab, qaa, qac, Nat.reduceEqDiff, ↓reduceIte, eq_self, e1, e5, e6, e7, e8, e9, e10, e11, qal (n := (k : Int) + 1) (by omega) (by omega)]
    clear e1 e5 e6 e7 e8 e9 e10 e11
    intro fr e1 e5 e6 e7 e8 e9 e10 e11
    exact LoopK_n (m' := mm - 1) (by omega) ⟨k + 1, wv2, q2, num2, by omega, by omega, hF2, e1, e5, e6, e7, e8, e9, e10, by rw [e11]; rfl, H2.up2.tail⟩
  · have hkl : k = q.length := by omega
    subst hkl
    exact LoopK_x (BlkK_e (hQ _ _ wv q num e1 e5 e6 e7 e8 hF H))
end Go.Proofs.Ytpphomoijlilfaa.G

/- Peaks: the document's groups, walked. -/
namespace Go.Proofs.Ytpphomoijlilfaa.G
open Go Go.Vam Go.Hang
theorem perm_at {α : Type} : ∀ (l : List α) (c : Nat) (h : c < l.length), l.Perm (l[c] :: l.eraseIdx c)
  | [], c, h => by simp at h
  | x :: l, 0, h => .refl _
  | x :: l, c + 1, h => ((perm_at l c (by simpa using h)).cons x).trans (.swap ..)
abbrev rowP (g : Value × List SpI) : HP := HP.own 3 g.1 g.2.length (g.2.flatMap eI)
theorem rows_at {G : Gs} {c : Nat} (h : c < G.length) : (rowsHP G).Perm (rowP G[c] :: rowsHP (G.eraseIdx c)) := (perm_at G c h).map rowP
theorem rows_set {G : Gs} {c : Nat} (h : c < G.length) (g : Value × List SpI) : (rowP g :: rowsHP (G.eraseIdx c)).Perm (rowsHP (G.set c g)) := by
  have := rows_at (G := G.set c g) (c := c) (by simpa using h)
  rw [List.eraseIdx_set_eq, List.getElem_set_self] at this
  exact this.symm
theorem rowAdd {s0 s : Mm} {l : List HP} {ov : Value} {G : Gs} {c : Nat} {x : SpI} (H : Hold s0 s (HP.own 1 ov G.length (G.map (·.1)) :: (rowsHP G ++ l))) (hc : c < G.length) (hl : G[c].2.length ≤ 5864062014634) :
    ∃ v' s2 s3, appendV (newAt s (.cells (eI x) false)) 24 3 G[c].1 (.slice (some ⟨s.nxt, 0, none⟩) 1 1) = some (v', s2) ∧ storeV s2 1 (elP ov c) v' = some (undefV, s3) ∧ oneCell v' = true ∧
      Hold s0 s2 (HP.own 1 ov G.length (G.map (·.1)) :: HP.own 3 v' (G[c].2.length + 1) (G[c].2.flatMap eI ++ eI x) :: (rowsHP (G.eraseIdx c) ++ l)) ∧
      Hold s0 s3 (HP.own 1 ov (G.set c (v', G[c].2 ++ [x])).length ((G.set c (v', G[c].2 ++ [x])).map (·.1)) :: (rowsHP (G.set c (v', G[c].2 ++ [x])) ++ l)) := by
  have H1 : Hold s0 s (rowP G[c] :: HP.own 1 ov G.length (G.map (·.1)) :: (rowsHP (G.eraseIdx c) ++ l)) := (H.perm (((rows_at hc).append_right l).cons _)).up1
  obtain ⟨v', s2, ap, H2⟩ := H1.push (bytes := 24) (new := eI x) rfl rfl (by omega) (by decide) (by omega) (by omega) (by omega)
  have hone : oneCell v' = true := (H2.own (List.mem_cons_self ..)).one
  obtain ⟨s3, st, H3⟩ := H2.up1.store (k := c) (x := v') (by simpa using hc) hone
  refine ⟨v', s2, s3, ap, st, hone, H2.up1, ?_⟩
  have e1 : (G.map (·.1)).set c v' = (G.set c (v', G[c].2 ++ [x])).map (·.1) := by rw [List.map_set]
  have e2 : HP.own 3 v' (G[c].2.length + 1) (G[c].2.flatMap eI ++ eI x) = rowP (v', G[c].2 ++ [x]) := by simp [rowP]
  rw [e1, e2] at H3
  rw [List.length_set]
  exact H3.perm (((rows_set hc _).append_right l).cons _)
theorem rows0 {s0 s : Mm} {l : List HP} (H : Hold s0 s l) : ∀ g, Hold s0 s (rowsHP (List.replicate g (.slice none 0 0, [])) ++ l)
  | 0 => H
  | g + 1 => (rows0 H g).nil 3
theorem byN_zero (all : List SpI) (num : Nat → Nat) (g : Nat) : byN all num g 0 = List.replicate g [] := by
  unfold byN
  rw [List.eq_replicate_iff]
  simp
theorem byN_len (all : List SpI) (num : Nat → Nat) (g k : Nat) : (byN all num g k).length = g := by simp [byN]
theorem byN_at (all : List SpI) (num : Nat → Nat) {g k c : Nat} (hc : c < g) : (byN all num g k)[c]? = some (((List.range k).filter fun j => decide (num j = c + 1)).map (atI all)) := by simp [byN, hc]
theorem byN_row (all : List SpI) (num : Nat → Nat) (g k : Nat) : ∀ r ∈ byN all num g k, r.length ≤ k := by
  intro r hr
  obtain ⟨c, _, rfl⟩ := List.mem_map.1 hr
  rw [List.length_map]
  exact Nat.le_trans (List.length_filter_le ..) (by simp)
theorem byN_succ {all : List SpI} {num : Nat → Nat} {g k c : Nat} (hc : c < g) (hk : num k = c + 1) {r : List SpI} (hr : (byN all num g k)[c]? = some r) : byN all num g (k + 1) = (byN all num g k).set c (r ++ [atI all k]) := by
  refine List.ext_getElem? fun i => ?_
  rw [byN_at all num hc] at hr
  cases hr
  rw [List.getElem?_set, byN_len]
  by_cases e : c = i
  · subst e
    rw [if_pos rfl, if_pos hc, byN_at all num hc, List.range_succ, List.filter_append, List.map_append]
    simp [hk]
  · rw [if_neg e]
    by_cases hi : i < g
    · rw [byN_at all num hi, byN_at all num hi, List.range_succ, List.filter_append]
      have : ¬ num k = i + 1 := by omega
      simp [this]
    · rw [List.getElem?_eq_none (by rw [byN_len]; omega), List.getElem?_eq_none (by rw [byN_len]; omega)]
set_option maxHeartbeats 4000000 in
theorem loop18c {X : Ctx} (hX : X.fns = fnsOf Try.prog) (ho : ∀ f args, f ≠ 15 ∧ f ≠ 38 → X.orc f args = none) {fr : Fr} {s0 s : Mm} {l : List HP} {fv av : Value} {all : List SpI} {B : Int} {Q : AExit → Fr → Mm → Prop}
    (hB : B ≤ 9223372036854775807) (hs : all.Pairwise ltI) (hok : ∀ x ∈ all, okI B x ∧ wI x) (hall : all.length ≤ 5864062014634)
    (hav : HP.own 3 av all.length (all.flatMap eI) ∈ l)
    (e1 : geT fr 1 = .int .i64 B) (e5 : geT fr 5 = av) (e6 : geT fr 6 = fv) (e7 : geT fr 7 = .slice none 0 0) (e8 : geT fr 8 = .int .i64 0)
    (H : Hold s0 s (HP.own 1 fv all.length (numV all.length (fun _ => 0)) :: HP.own 1 (.slice none 0 0) 0 [] :: l))
    (hQ : ∀ fr s ov num g, geT fr 5 = av → geT fr 6 = fv → geT fr 7 = ov → NO all B num g all.length → g ≤ all.length →
      Hold s0 s (HP.own 1 fv all.length (numV all.length num) :: HP.own 1 ov g (List.replicate g (.slice none 0 0)) :: l) → Q .normal fr s) :
    W X (.block 0 (.loop b18_7)) fr s Q := by
  refine qat (W_loop (fun mm fr s1 => ∃ (i g : Nat) (ov : Value) (num : Nat → Nat), i + mm = all.length ∧ g ≤ i ∧ NO all B num g i ∧
    geT fr 1 = .int .i64 B ∧ geT fr 5 = av ∧ geT fr 6 = fv ∧ geT fr 7 = ov ∧ geT fr 8 = .int .i64 (i : Nat) ∧
    Hold s0 s1 (HP.own 1 fv all.length (numV all.length num) :: HP.own 1 ov g (List.replicate g (.slice none 0 0)) :: l)) all.length ⟨0, 0, _, _, by omega, Nat.le_refl _, NO.start all B, e1, e5, e6, e7, e8, H⟩ ?_)
  clear e1 e5 e6 e7 e8 fr H s
  rintro mm fr s1 ⟨i, g, ov, num, hi, hgi, hO, e1, e5, e6, e7, e8, H⟩
  have sa := (H.own (sz := 3) (v := av) (n := all.length) (cs := all.flatMap eI) (by simp [hav])).slc
  have sf := (H.own (sz := 1) (v := fv) (n := all.length) (cs := numV all.length num) (by simp)).slc
  have so := (H.own (sz := 1) (v := ov) (n := g) (cs := List.replicate g (.slice none 0 0)) (by simp)).slc
  refine qau ?_
  refine qak (qan [1, 5, 6, 7, 8, 26] ?_)
  simp only [o18_8, qao, WO_bu, qah, bin_lss, qaj, qag, qad, qaf, qab, qaa, qac, List.map_cons, List.map_nil, Nat.reduceEqDiff, ↓reduceIte, eq_self, e1, e5, e6, e7, e8, sa.len]
  clear e1 e5 e6 e7 e8
  intro fr e1 e5 e6 e7 e8 e26
  refine qai ?_
  refine W_while e26 (fun hlt => ?_) (fun hlt => ?_)
  · have hi1 : i < all.length := by omega
    have A1 := sf.addr (kk := .i64) (i := ((i : Nat) : Int)) rfl hi1
    rw [Nat.mul_one] at A1
    have L1 := sf.load (numV_at num hi1)
    have d0 : decide (((num i : Nat) : Int) > 0) = decide (num i > 0) := decide_eq_decide.2 (by omega)
    refine qak (qat ?_)
    refine qau ?_
    refine qak (qan [1, 5, 6, 7, 8, 33] ?_)
    simp only [o18_9, WO_addrSl, qao, WO_load, qah, bin_gtr, qaj, qag, qad, qaf, qae, qab, qaa, qac, Nat.reduceEqDiff, ↓reduceIte, eq_self, e1, e5, e6, e7, e8, A1, L1, d0]
    clear e1 e5 e6 e7 e8 e26
    intro fr e1 e5 e6 e7 e8 e33
    refine qai ?_
    refine qak (W_if e33 (fun h0 => W_exit (SeqK_x (BlkK_e (qai ?_)))) (fun h0 => W_skip (qai ?_)))
    · skip
      refine qan [1, 5, 6, 7, 8] ?_
      simp only [o18_26, qao, qah, qax, qaj, qag, qad, qaf, qae, qab, qaa, qac, Nat.reduceEqDiff, ↓reduceIte, eq_self, e1, e5, e6, e7, e8, qal (n := (i : Int) + 1) (by omega) (by omega)]
      clear e1 e5 e6 e7 e8
      intro fr e1 e5 e6 e7 e8
      exact LoopK_n (m' := mm - 1) (by omega) ⟨i + 1, g, ov, num, by omega, by omega, hO.skip (by omega), e1, e5, e6, e7, by rw [e8]; rfl, H⟩
    · have hn0 : num i = 0 := by omega
      have ig : ((g : Nat) : Int) + 1 = ((g + 1 : Nat) : Int) := by omega
      obtain ⟨s2, st, H2⟩ := H.store (k := i) (x := iV (g + 1)) (by rw [numV_len]; exact hi1) rfl
      rw [numV_set] at H2
      have hst : storeV s1 1 (elP fv i) (.int .i64 ((g + 1 : Nat) : Int)) = some (undefV, s2) := st
      have hbs : buildSlV s2 1 [.int .i64 0] 1 [(0, 1, .int .i64 (i : Nat))] = some (.slice (some ⟨s2.nxt, 0, none⟩) 1 1, .cells [.int .i64 (i : Nat)] false) := rfl
      have H3 := (H2.new [iV i]).cellOwn (sz := 1) (n := 1) rfl (by decide)
      refine qak (qan [1, 5, 6, 7, 8, 9] ?_)
      simp only [o18_10, qao, WO_bu, qah, qax, qaj, qag, qad, qaf, qae, qab, qaa, qac, List.map_cons, List.map_nil, Nat.reduceEqDiff, ↓reduceIte, eq_self, e1, e5, e6, e7, e8, so.len, ig, qal (n := ((g + 1 : Nat) : Int)) (by omega) (by omega)]
      clear e1 e5 e6 e7 e8
      intro fr e1 e5 e6 e7 e8 e9
      refine qai ?_
      refine qak (qan [1, 5, 6, 7, 8, 9] ?_)
      simp only [o18_11, WO_addrSl, qah, WO_store, qaj, qag, MemK_some, qad, puT_none, qaf, qab, qaa, qac, Nat.reduceEqDiff, ↓reduceIte, eq_self, e1, e5, e6, e7, e8, e9, A1, hst]
      clear e1 e5 e6 e7 e8 e9
      intro fr e1 e5 e6 e7 e8 e9
      refine qai ?_
      refine qak (qan [1, 5, 6, 7, 8, 9, 10] ?_)
      simp only [o18_12, WO_buildSlice, qah, qaj, NewK_some, qad, qaf, qab, qaa, qac, List.map_cons, List.map_nil, Nat.reduceEqDiff, ↓reduceIte, eq_self, Nat.mul_one, e1, e5, e6, e7, e8, e9, hbs]
      clear e1 e5 e6 e7 e8 e9
      intro fr e1 e5 e6 e7 e8 e9 e10
      refine qai ?_
      refine qau ?_
      refine qak (qan [1, 5, 6, 7, 8, 9, 10, 11] ?_)
      simp only [o18_13, qah, qaj, qad, qae, qab, qaa, qac, Nat.reduceEqDiff, ↓reduceIte, eq_self, e1, e5, e6, e7, e8, e9, e10]
      clear e1 e5 e6 e7 e8 e9 e10
      intro fr e1 e5 e6 e7 e8 e9 e10 e11
      refine qai ?_
      refine qak (loop18b hX ho hB hs hok hall (g := g + 1) ⟨by omega, by omega⟩ (hO.closed hs) (l := HP.own 1 ov g (List.replicate g (.slice none 0 0)) :: l) (by simp [hav]) e1 e5 e6 e7 e8 e9 e10 e11 (NF.start hs hi1 hn0) (q := [i]) H3 ?_)
      clear e1 e5 e6 e7 e8 e9 e10 e11 fr H3 H2 H st hst hbs sa sf so A1 L1 s1
      intro fr s3 wv q num2 e1 e5 e6 e7 e8 hF H3
      have hO2 := hO.add hs hok hi1 hn0 hF
      have H4 := H3.tail
      refine qai ?_
      have hbs : buildSlV s3 1 [.slice none 0 0] 1 [(0, 1, .slice none 0 0)] = some (.slice (some ⟨s3.nxt, 0, none⟩) 1 1, .cells [.slice none 0 0] false) := rfl
      obtain ⟨ov', s4, ap, H5⟩ := H4.up1.push (bytes := 24) (new := [.slice none 0 0]) rfl rfl (by omega) (by decide) (by omega) (by omega) (by omega)
      refine qan [1, 5, 6, 7, 8] ?_
      simp only [o18_25, WO_append, WO_buildSlice, qah, qaj, MemK_some, NewK_some, qad, qaf, qae, qab, qaa, qac, List.map_cons, List.map_nil, Nat.reduceEqDiff, ↓reduceIte, eq_self, Nat.mul_one, e1, e5, e6, e7, e8, hbs, ap]
      clear e1 e5 e6 e7 e8
      intro fr e1 e5 e6 e7 e8
      refine BlkK_n (qai ?_)
      refine qan [1, 5, 6, 7, 8] ?_
      simp only [o18_26, qao, qah, qax, qaj, qag, qad, qaf, qae, qab, qaa, qac, Nat.reduceEqDiff, ↓reduceIte, eq_self, e1, e5, e6, e7, e8, qal (n := (i : Int) + 1) (by omega) (by omega)]
      clear e1 e5 e6 e7 e8
      intro fr e1 e5 e6 e7 e8
      rw [show List.replicate g (Value.slice none 0 0) ++ [Value.slice none 0 0] = List.replicate (g + 1) (Value.slice none 0 0) by rw [List.replicate_succ']] at H5
      exact LoopK_n (m' := mm - 1) (by omega) ⟨i + 1, g + 1, ov', num2, by omega, by omega, hO2, e1, e5, e6, e7, by rw [e8]; rfl, H5.up1⟩
  · have hkl : i = all.length := by omega
    subst hkl
    exact LoopK_x (BlkK_e (hQ _ _ ov num g e5 e6 e7 hO hgi H))
set_option maxHeartbeats 4000000 in
theorem loop18d {X : Ctx} (hX : X.fns = fnsOf Try.prog) (ho : ∀ f args, f ≠ 15 ∧ f ≠ 38 → X.orc f args = none) {fr : Fr} {s0 s : Mm} {l : List HP} {fv av ov : Value} {all : List SpI} {num : Nat → Nat} {g : Nat} {Q : AExit → Fr → Mm → Prop}
    (hall : all.length ≤ 5864062014634) (hg : g ≤ all.length) (hn : ∀ j, j < all.length → num j ≠ 0 ∧ num j ≤ g)
    (hav : HP.own 3 av all.length (all.flatMap eI) ∈ l) (hfv : HP.own 1 fv all.length (numV all.length num) ∈ l)
    (e5 : geT fr 5 = av) (e6 : geT fr 6 = fv) (e7 : geT fr 7 = ov) (e14 : geT fr 14 = .int .i64 0)
    (H : Hold s0 s (HP.own 1 ov g (List.replicate g (.slice none 0 0)) :: l))
    (hQ : ∀ fr s G, geT fr 7 = ov → G.map (·.2) = byN all num g all.length → Hold s0 s (HP.own 1 ov G.length (G.map (·.1)) :: (rowsHP G ++ l)) → Q .normal fr s) :
    W X (.block 6 (.loop b18_28)) fr s Q := by
  refine qat (W_loop (fun mm fr s1 => ∃ (k : Nat) (G : Gs), k + mm = all.length ∧ G.map (·.2) = byN all num g k ∧
    geT fr 5 = av ∧ geT fr 6 = fv ∧ geT fr 7 = ov ∧ geT fr 14 = .int .i64 (k : Nat) ∧
    Hold s0 s1 (HP.own 1 ov G.length (G.map (·.1)) :: (rowsHP G ++ l))) all.length ⟨0, List.replicate g (.slice none 0 0, []), by omega, by rw [byN_zero]; simp, e5, e6, e7, e14, ?_⟩ ?_)
  · have := (rows0 H g).perm (List.perm_middle)
    simpa using this
  clear e5 e6 e7 e14 fr H s
  rintro mm fr s1 ⟨k, G, hk, hG, e5, e6, e7, e14, H⟩
  have sa := (H.own (sz := 3) (v := av) (n := all.length) (cs := all.flatMap eI) (by simp [hav])).slc
  refine qau ?_
  refine qak (qan [5, 6, 7, 14, 93] ?_)
  simp only [o18_29, qao, WO_bu, qah, bin_lss, qaj, qag, qad, qaf, qab, qaa, qac, List.map_cons, List.map_nil, Nat.reduceEqDiff, ↓reduceIte, eq_self, e5, e6, e7, e14, sa.len]
  clear e5 e6 e7 e14
  intro fr e5 e6 e7 e14 e93
  refine qai ?_
  refine W_while e93 (fun hlt => ?_) (fun hlt => ?_)
  · have hk1 : k < all.length := by omega
    obtain ⟨hn1, hn2⟩ := hn k hk1
    obtain ⟨c, hc⟩ : ∃ c, num k = c + 1 := ⟨num k - 1, by omega⟩
    have hGl : G.length = g := by have := congrArg List.length hG; rw [byN_len, List.length_map] at this; exact this
    have hcG : c < G.length := by omega
    have hrow : (byN all num g k)[c]? = some G[c].2 := by rw [← hG, List.getElem?_map, List.getElem?_eq_getElem hcG]; rfl
    have hrl := byN_row all num g k _ (List.mem_of_getElem? hrow)
    obtain ⟨v', s2, s3, ap, st, hone, H2, H3⟩ := rowAdd H (c := c) (x := atI all k) hcG (by omega)
    have sf := (H.own (sz := 1) (v := fv) (n := all.length) (cs := numV all.length num) (by simp [hfv])).slc
    have so := (H.own (sz := 1) (v := ov) (n := G.length) (cs := G.map (·.1)) (by simp)).slc
    have A1 := sf.addr (kk := .i64) (i := ((k : Nat) : Int)) rfl hk1
    have A2 := so.addr (kk := .i64) (i := ((c : Nat) : Int)) rfl hcG
    rw [Nat.mul_one] at A1 A2
    have ic : ((num k : Nat) : Int) - 1 = ((c : Nat) : Int) := by omega
    have wc := qal (n := ((c : Nat) : Int)) (by omega) (by omega)
    refine qak (qat ?_)
    refine W_drawM [5, 6, 7, 14] 1 rfl ?_
    intro s' hh hn' hs'
    have K := H.keep hs'
    have L1 := (sf.same hs' (fun _ _ h => h)).load (numV_at num hk1)
    have L1' := (H2.own (sz := 1) (v := fv) (n := all.length) (cs := numV all.length num) (by simp [hfv])).slc.load (numV_at num hk1)
    have L2 : loadV s' none (elP ov c) = some G[c].1 := (so.same hs' (fun _ _ h => h)).load (by rw [List.getElem?_map, List.getElem?_eq_getElem hcG]; rfl)
    obtain ⟨A3, L3⟩ := spots_at (sa.same hs' (fun _ _ h => h)) hk1 rfl
    have sn := setH_new (b := .cells (eI (atI all k)) false) hh hn'
    simp only [d18_30, qba, WD_bin, qay, WD_load, WD_buildSlice, WD_store, WD_append, WD_nil, qam, qas, qaz, DNewK_some, qaw, qav, preHead_cons, qar, joinF_cons, qaq, qap, Nat.testBit, Nat.reduceShiftRight, Nat.reduceAnd, Nat.reduceBneDiff, List.all_nil, List.all_cons, List.filter_nil, List.filter_cons, sameO_int, bne_self_eq_false, qad, puT_none, qaf, qae, qab, qaa, qac, List.map_cons, List.map_nil, Nat.reduceEqDiff, Nat.reduceAdd, ↓reduceIte, qbd, Bool.not_true, Bool.not_false, Bool.and_true, Bool.or_true, Bool.true_or, eq_self, Bool.false_eq_true, true_and, Nat.zero_add, Nat.zero_mul, e5, e6, e7, e14, A1, L1, ic, wc, A2, L2, A3, L3, buildSlD_sI, sn, ap, L1', st]
    clear e5 e6 e7 e14
    intro fr e5 e6 e7 e14
    refine BlkK_n (qai ?_)
    refine qan [5, 6, 7, 14] ?_
    simp only [o18_31, qao, qah, qax, qaj, qag, qad, qaf, qae, qab, qaa, qac, Nat.reduceEqDiff, ↓reduceIte, eq_self, e5, e6, e7, e14, qal (n := (k : Int) + 1) (by omega) (by omega)]
    clear e5 e6 e7 e14
    intro fr e5 e6 e7 e14
    refine LoopK_n (m' := mm - 1) (by omega) ⟨k + 1, _, by omega, ?_, e5, e6, e7, by rw [e14]; rfl, H3⟩
    rw [byN_succ (by omega) hc hrow, ← hG, List.map_set]
  · have hkl : k = all.length := by omega
    subst hkl
    exact LoopK_x (BlkK_e (hQ _ _ G e7 hG H))
end Go.Proofs.Ytpphomoijlilfaa.G

/- Peaks: the document's groups, walked whole. -/
namespace Go.Proofs.Ytpphomoijlilfaa.G
open Go Go.Vam Go.Hang
theorem dd_first {B : Int} {L : List SpI} (y : SpI) : y ∈ ddP B L [] ↔ First (okF B L) y := by
  rw [ddP_mem]
  simp [okF]
theorem dd_low {B : Int} {L : List SpI} (h : B < 1) (y : SpI) : ¬ y ∈ ddP B L [] := by
  rw [dd_first]
  intro hf
  have := (List.mem_filter.1 hf.mem).2
  have := of_decide_eq_true this
  unfold okI at this
  omega
theorem parts_nil {B : Int} {L : List SpI} (h : B < 1) : Parts (ddP B L []) (adj B) ltI [] :=
  ⟨fun g hg => by simp at hg, fun g hg => by simp at hg, fun g hg => by simp at hg, fun x hx => absurd hx (dd_low h x), .nil⟩
theorem parts_as {all all' : List SpI} {B : Int} {G : List (List SpI)} (hs : ∀ x, x ∈ all ↔ x ∈ all') (h : Parts all (adj B) ltI G) : Parts all' (adj B) ltI G := by
  refine ⟨h.some, h.sort, fun g hg x hx y => ?_, fun x hx => h.every x ((hs x).2 hx), h.order⟩
  rw [h.whole g hg x hx y, hs y]
  exact and_congr Iff.rfl ⟨Reach.mono fun z hz => (hs z).1 hz, Reach.mono fun z hz => (hs z).2 hz⟩
set_option maxHeartbeats 4000000 in
theorem run18 {X : Ctx} (hX : X.fns = fnsOf Try.prog) (ho : ∀ f args, f ≠ 15 ∧ f ≠ 38 → X.orc f args = none) {s0 s : Mm} {l : List HP} {v : Value} {L : List SpI} {B : Int} (H0 : Hold s0 s l) (a : SlC s 3 v L.length (L.flatMap eI)) (hL : L.length ≤ 5864062014634) (hB : B ≤ 9223372036854775807) (hw : ∀ x ∈ L, wI x) :
    CallP X 18 [v, .int .i64 B] s (fun r s' => ∃ G : Gs, Parts (ddP B L []) (adj B) ltI (G.map (·.2)) ∧ G.length ≤ 5864062014634 ∧ Hold s0 s' (HP.own 1 r G.length (G.map (·.1)) :: (rowsHP G ++ l))) := by
  refine CallP_of (hX ▸ ir18_eq) (ho _ _ (by decide)) (Nat.le_of_ble_eq_true rfl) ?_
  refine qak (qan [0, 1] ?_)
  simp only [o18_0, qah, qaj, qad, frame_nil, qbc, qae, qab, qaa, qac, Nat.reduceEqDiff, Nat.reduceAdd, ↓reduceIte, eq_self, Nat.zero_add]
  intro fr e0 e1
  refine qai ?_
  refine qau ?_
  refine qak (qan [0, 1, 16] ?_)
  simp only [o18_1, qao, qah, bin_lss, qaj, qag, qad, qaf, qae, qab, qaa, qac, Nat.reduceEqDiff, ↓reduceIte, eq_self, e0, e1]
  clear e0 e1
  intro fr e0 e1 e16
  refine qai ?_
  refine qak (W_if e16 (fun h => ?_) (fun h => W_skip (qai ?_)))
  · refine qak (qan [4] ?_)
    simp only [o18_2, qah, qaj, qad, qae, qab, qaa, qac, ↓reduceIte, eq_self]
    clear e0 e1 e16
    intro fr e4
    refine qai ?_
    exact W_ret (SeqK_r (Ret1 e4 ⟨[], parts_nil h, by simp, H0.nil 1⟩))
  refine qak (qan [1, 5] ?_)
  simp only [o18_3, WO_call, qah, qad, qaf, List.map_cons, List.map_nil, Nat.reduceEqDiff, ↓reduceIte, eq_self, e0, e1]
  refine CallK_of (run41 hX ho (Hold.refl s) a hL) ?_
  rintro av s1 ⟨all, ⟨hs, hmem⟩, hall, H1⟩
  simp only [qah, qaj, qad, qaf, qab, qaa, qac, Nat.reduceEqDiff, ↓reduceIte, eq_self, e1]
  clear e0 e1
  intro fr e1 e5
  refine qai ?_
  have hfirst : ∀ x ∈ all, okI B x ∧ wI x := fun x hx => by
    obtain ⟨h1, h2⟩ := List.mem_filter.1 ((hmem x).1 hx).mem
    exact ⟨of_decide_eq_true h2, hw x h1⟩
  have sa := (H1.own (sz := 3) (v := av) (n := all.length) (cs := all.flatMap eI) (by simp)).slc
  have hmk : makeSlV s1 8 [.int .i64 0] (.int .i64 (all.length : Nat)) (.int .i64 (all.length : Nat)) = some (.slice (some ⟨s1.nxt, 0, none⟩) all.length all.length, .cells (repZ [.int .i64 0] all.length) false) := makeSl_eq rfl rfl (Nat.le_refl _) (by omega) (by omega)
  have H2 := H1.make (sz := 1) (c := all.length) (n := all.length) (z := [.int .i64 0]) rfl (Nat.le_refl _) (by unfold OPEN; omega)
  have hz : repZ [Value.int .i64 0] all.length = numV all.length (fun _ => 0) := by
    rw [repZ_1]
    unfold numV
    rw [List.map_const']
    simp [iV]
  rw [hz] at H2 hmk
  refine qak (qan [1, 5, 6] ?_)
  simp only [o18_4, WO_bu, WO_makeSlice, qah, qaj, qag, NewK_some, qad, qaf, qab, qaa, qac, List.map_cons, List.map_nil, Nat.reduceEqDiff, ↓reduceIte, eq_self, e1, e5, sa.len, hmk]
  clear e1 e5
  intro fr e1 e5 e6
  refine qai ?_
  generalize newAt s1 (.cells (numV all.length (fun _ => 0)) false) = s2 at H2 ⊢
  generalize Value.slice (some ⟨s1.nxt, 0, none⟩) all.length all.length = fv at H2 e6
  have H3 := (H2.nil 1).up1
  refine qak (qan [1, 5, 6, 7] ?_)
  simp only [o18_5, qah, qaj, qad, qae, qab, qaa, qac, Nat.reduceEqDiff, ↓reduceIte, eq_self, e1, e5, e6]
  clear e1 e5 e6
  intro fr e1 e5 e6 e7
  refine qai ?_
  refine qau ?_
  refine qak (qan [1, 5, 6, 7, 8] ?_)
  simp only [o18_6, qah, qaj, qad, qae, qab, qaa, qac, Nat.reduceEqDiff, ↓reduceIte, eq_self, e1, e5, e6, e7]
  clear e1 e5 e6 e7
  intro fr e1 e5 e6 e7 e8
  refine qai ?_
  refine qak (loop18c hX ho hB hs hfirst hall (l := [HP.own 3 av all.length (all.flatMap eI)]) (by simp) e1 e5 e6 e7 e8 H3 ?_)
  clear e1 e5 e6 e7 e8 fr H3 H2 H1 sa hmk s1 s2
  intro fr s2 ov num g e5 e6 e7 hO hg H
  refine qai ?_
  have H2 := H.up1
  refine qau ?_
  refine qak (qan [5, 6, 7, 14] ?_)
  simp only [o18_27, qah, qaj, qad, qae, qab, qaa, qac, Nat.reduceEqDiff, ↓reduceIte, eq_self, e5, e6, e7]
  clear e5 e6 e7
  intro fr e5 e6 e7 e14
  refine qai ?_
  refine qak (loop18d hX ho hall hg (fun j hj => ⟨hO.done j hj, hO.le j hj⟩) (by simp) (by simp) e5 e6 e7 e14 H2 ?_)
  clear e5 e6 e7 e14 fr H H2 s2
  intro fr s2 G e7 hG H
  refine qai ?_
  refine qak (qan [4] ?_)
  simp only [o18_32, qah, qaj, qad, qaf, qab, qaa, qac, ↓reduceIte, eq_self, e7]
  clear e7
  intro fr e4
  refine qai ?_
  have hGl : G.length = g := by have := congrArg List.length hG; rw [byN_len, List.length_map] at this; exact this
  have hP := hO.parts hs
  rw [← hG] at hP
  have H9 : Hold s s2 (HP.own 1 ov G.length (G.map (·.1)) :: rowsHP G) := by
    have h0 : Hold s s2 ((HP.own 1 ov G.length (G.map (·.1)) :: rowsHP G) ++ [HP.own 1 fv all.length (numV all.length num), HP.own 3 av all.length (all.flatMap eI)]) := H
    have := h0.perm List.perm_append_comm
    exact this.tail.tail
  exact W_ret (Ret1 e4 ⟨G, parts_as (fun y => by rw [hmem y, dd_first]) hP, by omega, H0.app H9⟩)
end Go.Proofs.Ytpphomoijlilfaa.G
