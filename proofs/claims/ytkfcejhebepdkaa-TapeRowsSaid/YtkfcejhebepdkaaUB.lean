/- Tables that are the same; a frame anew. -/
import Derived.Test.YtkfcejhebepdkaaUA
import Derived.Test.YtkfcejhebepdkaaWpB
import Derived.SizedLaws
namespace Go.Proofs.Ytkfcejhebepdkaa
open Go Go.Vam

theorem sub_eC {row : List (Nat × Nat)} {k : Nat} (hk : k < row.length) : ((row.flatMap eC).drop (k * 2)).take 2 = eC row[k] := by
  induction row generalizing k with
  | nil => simp at hk
  | cons x row ih =>
    cases k with
    | zero => rfl
    | succ k =>
      have e : (k + 1) * 2 = k * 2 + 2 := by omega
      rw [e]
      exact ih (by simpa using hk)

def eI (x : Int) : List Value := [.int .i16 x]
theorem flat_eI (l : List Int) : l.flatMap eI = l.map (.int .i16) := flatMap_one (Value.int .i16) l

theorem TabE.tabC {s : Mm} {v : Value} {rows : List (List Int)} (h : TabE s 1 eI v rows) : TabC s v rows := by
  obtain ⟨c, a, b⟩ := h
  exact ⟨c, a, fun i r h => let ⟨x, y, z⟩ := b i r h; ⟨x, y, by rw [← flat_eI]; exact z⟩⟩

theorem buildSlD_0 {nid : Nat} : buildSlD nid 1 [.int .i16 0] 0 [] = some (.slice (some ⟨nid, 0, none⟩) 0 0, .cells [] false) := rfl
theorem buildSlD_1 {nid : Nat} {c : Value} (h : oneCell c = true) : buildSlD nid 1 [.slice none 0 0] 1 [(0, 1, c)] = some (.slice (some ⟨nid, 0, none⟩) 1 1, .cells [c] false) := by
  cases c <;> first | rfl | cases h


theorem run41 {X : Ctx} (hX : X.fns = fnsOf Try.prog) (ho : ∀ f args, f ≠ 9 → X.orc f args = none) {s : Mm} {v w : Value} {row : List (Nat × Nat)} (h : SlC s 2 v row.length (row.flatMap eC)) (g : SlC s 2 w row.length (row.flatMap eC)) (hn : row.length ≤ 1099511627776) :
    CallP X 41 [v, w] s (fun r s' => r = .bool true ∧ Same s s' (fun _ => False)) := by
  refine CallP_of (hX ▸ ir41_eq) (ho _ _ (by decide)) (Nat.le_of_ble_eq_true rfl) ?_
  refine W_seq (W_ops [0, 1] ?_)
  simp only [o41_0, WO_move, WO_nil, geT_put, frame_nil, frame_cons, evO_const, keep_nil, keep_cons, keepK_eq, Nat.reduceEqDiff, Nat.reduceAdd, ↓reduceIte, eq_self, Nat.zero_add]
  intro fr e0 e1
  refine SeqK_n ?_
  refine W_assoc ?_
  refine W_seq (W_ops [0, 1, 11] ?_)
  simp only [o41_1, WO_bin, WO_bu, WO_move, bin_neq, WO_nil, PureK_some, geT_put, evO_tmp, keep_nil, keep_cons, keepK_eq, List.map_cons, List.map_nil, Nat.reduceEqDiff, ↓reduceIte, Bool.not_true, decide_true, eq_self, e0, e1, h.len, g.len]
  clear e0 e1
  intro fr e0 e1 e11
  refine SeqK_n ?_
  refine W_seq (W_cond e11 (fun h => by cases h) (fun _ => W_skip (SeqK_n ?_)))
  refine W_assoc ?_
  refine W_seq (W_ops [0, 1, 5] ?_)
  simp only [o41_3, WO_move, WO_nil, geT_put, evO_const, keep_nil, keep_cons, keepK_eq, Nat.reduceEqDiff, ↓reduceIte, eq_self, e0, e1]
  clear e0 e1 e11
  intro fr e0 e1 e5
  refine SeqK_n ?_
  refine W_seq (W_block (W_loop (fun m fr s1 => ∃ k, k + m = row.length ∧ geT fr 0 = v ∧ geT fr 1 = w ∧ geT fr 5 = .int .i64 (k : Nat) ∧ Same s s1 (fun _ => False)) row.length ⟨0, by omega, e0, e1, e5, .refl _ _⟩ ?_))
  clear e0 e1 e5 fr
  rintro m fr s1 ⟨k, hk, e0, e1, e5, hs⟩
  refine W_assoc ?_
  refine W_seq (W_ops [0, 1, 5, 15] ?_)
  simp only [o41_5, WO_bin, WO_bu, WO_move, bin_lss, WO_nil, PureK_some, geT_put, evO_tmp, keep_nil, keep_cons, keepK_eq, List.map_cons, List.map_nil, Nat.reduceEqDiff, ↓reduceIte, eq_self, e0, e1, e5, h.len]
  clear e0 e1 e5
  intro fr e0 e1 e5 e15
  refine SeqK_n ?_
  refine W_while e15 (fun hlt => ?_) (fun hlt => ?_)
  · have hk1 : k < row.length := by omega
    have A1 : loadV s1 (some 2) (elP v (k * 2)) = some (.agg #[.float .f64 row[k].1, .float .f64 row[k].2]) := by
      rw [(h.same hs (fun _ _ h => h)).loads (by omega) (by omega), sub_eC hk1]; rfl
    have A2 : loadV s1 (some 2) (elP w (k * 2)) = some (.agg #[.float .f64 row[k].1, .float .f64 row[k].2]) := by
      rw [(g.same hs (fun _ _ h => h)).loads (by omega) (by omega), sub_eC hk1]; rfl
    have B1 := h.addr (kk := .i64) (i := (k : Int)) rfl hk1
    have B2 := g.addr (kk := .i64) (i := (k : Int)) rfl hk1
    refine W_seq (W_block ?_)
    refine W_seq (W_draw0 [0, 1, 5, 6] rfl ?_)
    simp only [d41_6, WD_addrSl, WD_call, WD_load, WD_move, DPureK_some, DReadK_some, pastR_nil, joinF_nil, setH_self, geT_put, evO_tmp, List.map_cons, List.map_nil, Nat.reduceEqDiff, Nat.reduceAdd, ↓reduceIte, eq_self, true_and, Nat.zero_add, e0, e1, e5, B1, A1, B2, A2]
    refine DCallK_of rfl (run54 hX ho) ?_
    rintro _ s2 ⟨rfl, hs2⟩
    simp only [WD_move, WD_nil, DPureK_some, joinF_nil, joinAll_nil, setH_self, Nat.testBit, Nat.reduceShiftRight, Nat.reduceAnd, Nat.reduceBneDiff, List.all_nil, List.all_cons, List.filter_nil, List.filter_cons, geT_put, evO_tmp, keep_nil, keep_cons, keepK_eq, Nat.reduceEqDiff, Nat.reduceAdd, ↓reduceIte, Bool.not_true, Bool.and_true, Bool.true_or, eq_self, Bool.false_eq_true, true_and, e0, e1, e5]
    clear e0 e1 e5 e15
    intro fr e0 e1 e5 e6
    refine SeqK_n ?_
    refine W_seq (W_ops [0, 1, 5, 28] ?_)
    simp only [o41_7, WO_move, WO_un, un_not, WO_nil, PureK_some, geT_put, evO_tmp, keep_nil, keep_cons, keepK_eq, Nat.reduceEqDiff, ↓reduceIte, Bool.not_true, eq_self, e0, e1, e5, e6]
    clear e0 e1 e5 e6
    intro fr e0 e1 e5 e28
    refine SeqK_n ?_
    refine W_cond e28 (fun h => by cases h) (fun _ => W_skip (BlkK_n (SeqK_n ?_)))
    refine W_ops [0, 1, 5] ?_
    simp only [o41_9, WO_bin, WO_move, bin_add, WO_nil, PureK_some, geT_put, evO_tmp, evO_const, keep_nil, keep_cons, keepK_eq, Nat.reduceEqDiff, ↓reduceIte, eq_self, e0, e1, e5, wrap_i64 (n := (k : Int) + 1) (by omega) (by omega)]
    clear e0 e1 e5 e28
    intro fr e0 e1 e5
    exact LoopK_n (m' := m - 1) (by omega) ⟨k + 1, by omega, e0, e1, by rw [e5]; rfl, hs.trans hs2 (fun _ _ h => h) (fun _ _ h => h)⟩
  · refine LoopK_x (BlkK_e (SeqK_n ?_))
    refine W_seq (W_ops [4] ?_)
    simp only [o41_10, WO_move, WO_nil, geT_put, evO_const, keep_nil, keep_cons, keepK_eq, ↓reduceIte, eq_self]
    clear e0 e1 e5 e15
    intro fr e4
    refine SeqK_n ?_
    exact W_ret (Ret1 e4 ⟨rfl, hs⟩)

theorem run23 {X : Ctx} (hX : X.fns = fnsOf Try.prog) (ho : ∀ f args, f ≠ 9 → X.orc f args = none) {s : Mm} {v w : Value} {rows : List (List (Nat × Nat))} (h : TabE s 2 eC v rows) (g : TabE s 2 eC w rows) (hl : rows.length ≤ 1099511627776) (hn : ∀ r ∈ rows, r.length ≤ 1099511627776) :
    CallP X 23 [v, w] s (fun r s' => r = .bool true ∧ Same s s' (fun _ => False)) := by
  refine CallP_of (hX ▸ ir23_eq) (ho _ _ (by decide)) (Nat.le_of_ble_eq_true rfl) ?_
  refine W_seq (W_ops [0, 1] ?_)
  simp only [o23_0, WO_move, WO_nil, geT_put, frame_nil, frame_cons, evO_const, keep_nil, keep_cons, keepK_eq, Nat.reduceEqDiff, Nat.reduceAdd, ↓reduceIte, eq_self, Nat.zero_add]
  intro fr e0 e1
  refine SeqK_n ?_
  refine W_assoc ?_
  refine W_seq (W_ops [0, 1, 11] ?_)
  simp only [o23_1, WO_bin, WO_bu, WO_move, bin_neq, WO_nil, PureK_some, geT_put, evO_tmp, keep_nil, keep_cons, keepK_eq, List.map_cons, List.map_nil, Nat.reduceEqDiff, ↓reduceIte, Bool.not_true, decide_true, eq_self, e0, e1, h.len, g.len]
  clear e0 e1
  intro fr e0 e1 e11
  refine SeqK_n ?_
  refine W_seq (W_cond e11 (fun h => by cases h) (fun _ => W_skip (SeqK_n ?_)))
  refine W_assoc ?_
  refine W_seq (W_ops [0, 1, 5] ?_)
  simp only [o23_3, WO_move, WO_nil, geT_put, evO_const, keep_nil, keep_cons, keepK_eq, Nat.reduceEqDiff, ↓reduceIte, eq_self, e0, e1]
  clear e0 e1 e11
  intro fr e0 e1 e5
  refine SeqK_n ?_
  refine W_seq (W_block (W_loop (fun m fr s1 => ∃ k, k + m = rows.length ∧ geT fr 0 = v ∧ geT fr 1 = w ∧ geT fr 5 = .int .i64 (k : Nat) ∧ Same s s1 (fun _ => False)) rows.length ⟨0, by omega, e0, e1, e5, .refl _ _⟩ ?_))
  clear e0 e1 e5 fr
  rintro m fr s1 ⟨k, hk, e0, e1, e5, hs⟩
  refine W_assoc ?_
  refine W_seq (W_ops [0, 1, 5, 15] ?_)
  simp only [o23_5, WO_bin, WO_bu, WO_move, bin_lss, WO_nil, PureK_some, geT_put, evO_tmp, keep_nil, keep_cons, keepK_eq, List.map_cons, List.map_nil, Nat.reduceEqDiff, ↓reduceIte, eq_self, e0, e1, e5, h.len]
  clear e0 e1 e5
  intro fr e0 e1 e5 e15
  refine SeqK_n ?_
  refine W_while e15 (fun hlt => ?_) (fun hlt => ?_)
  · have hk1 : k < rows.length := by omega
    obtain ⟨c, B1, A1, r1⟩ := (h.same hs).row hk1
    obtain ⟨c', B2, A2, r2⟩ := (g.same hs).row hk1
    refine W_seq (W_block ?_)
    refine W_seq (W_draw0 [0, 1, 5, 6] rfl ?_)
    simp only [d23_6, WD_addrSl, WD_call, WD_load, WD_move, DPureK_some, DReadK_some, pastR_nil, joinF_nil, setH_self, geT_put, evO_tmp, List.map_cons, List.map_nil, Nat.reduceEqDiff, Nat.reduceAdd, ↓reduceIte, eq_self, true_and, Nat.zero_add, e0, e1, e5, B1, A1, B2, A2]
    refine DCallK_of rfl (run41 hX ho r1 r2 (hn _ (by simp))) ?_
    rintro _ s2 ⟨rfl, hs2⟩
    simp only [WD_move, WD_nil, DPureK_some, joinF_nil, joinAll_nil, setH_self, Nat.testBit, Nat.reduceShiftRight, Nat.reduceAnd, Nat.reduceBneDiff, List.all_nil, List.all_cons, List.filter_nil, List.filter_cons, geT_put, evO_tmp, keep_nil, keep_cons, keepK_eq, Nat.reduceEqDiff, Nat.reduceAdd, ↓reduceIte, Bool.not_true, Bool.and_true, Bool.true_or, eq_self, Bool.false_eq_true, true_and, e0, e1, e5]
    clear e0 e1 e5 e15
    intro fr e0 e1 e5 e6
    refine SeqK_n ?_
    refine W_seq (W_ops [0, 1, 5, 28] ?_)
    simp only [o23_7, WO_move, WO_un, un_not, WO_nil, PureK_some, geT_put, evO_tmp, keep_nil, keep_cons, keepK_eq, Nat.reduceEqDiff, ↓reduceIte, Bool.not_true, eq_self, e0, e1, e5, e6]
    clear e0 e1 e5 e6
    intro fr e0 e1 e5 e28
    refine SeqK_n ?_
    refine W_cond e28 (fun h => by cases h) (fun _ => W_skip (BlkK_n (SeqK_n ?_)))
    refine W_ops [0, 1, 5] ?_
    simp only [o23_9, WO_bin, WO_move, bin_add, WO_nil, PureK_some, geT_put, evO_tmp, evO_const, keep_nil, keep_cons, keepK_eq, Nat.reduceEqDiff, ↓reduceIte, eq_self, e0, e1, e5, wrap_i64 (n := (k : Int) + 1) (by omega) (by omega)]
    clear e0 e1 e5 e28
    intro fr e0 e1 e5
    exact LoopK_n (m' := m - 1) (by omega) ⟨k + 1, by omega, e0, e1, by rw [e5]; rfl, hs.trans hs2 (fun _ _ h => h) (fun _ _ h => h)⟩
  · refine LoopK_x (BlkK_e (SeqK_n ?_))
    refine W_seq (W_ops [4] ?_)
    simp only [o23_10, WO_move, WO_nil, geT_put, evO_const, keep_nil, keep_cons, keepK_eq, ↓reduceIte, eq_self]
    clear e0 e1 e5 e15
    intro fr e4
    refine SeqK_n ?_
    exact W_ret (Ret1 e4 ⟨rfl, hs⟩)

set_option maxHeartbeats 4000000 in
theorem run19 {X : Ctx} (hX : X.fns = fnsOf Try.prog) (ho : ∀ f args, f ≠ 9 → X.orc f args = none) {s0 s : Mm} {l : List HP} {rv iv : Value} {T U : Nat} {re im : List (List Int)} (H : Hold s0 s l) (hr : TabC s rv re) (hi : TabC s iv im) (hlr : re.length ≤ 5864062014805) (hli : im.length ≤ 5864062014805) (hn1 : ∀ r ∈ re, r.length ≤ 70368744177664) (hn2 : ∀ r ∈ im, r.length ≤ 70368744177664) :
    CallP X 19 [.agg #[.float .f64 T, .float .f64 U, rv, iv]] s (fun r s' => ∃ rv' iv', r = .agg #[.float .f64 T, .float .f64 U, rv', iv'] ∧ oneCell rv' = true ∧ oneCell iv' = true ∧ Hold s0 s' (HP.tab 1 eI rv' re [] :: HP.tab 1 eI iv' im [] :: l)) := by
  refine CallP_of (hX ▸ ir19_eq) (ho _ _ (by decide)) (Nat.le_of_ble_eq_true rfl) ?_
  have hbx : (Value.agg #[.float .f64 T, .float .f64 U, rv, iv]).cells.toList = [.float .f64 T, .float .f64 U, rv, iv] := rfl
  refine W_seq (W_ops [1, 2] ?_)
  simp only [o19_0, WO_alloc, nxt_new, WO_box, WO_nil, geT_put, frame_nil, frame_cons, evO_tmp, keep_nil, keep_cons, keepK_eq, Nat.reduceEqDiff, ↓reduceIte, eq_self, Nat.zero_add, hbx]
  intro fr e1 e2
  refine SeqK_n ?_
  have H1 := ((Hold.refl s).new [.float .f64 T, .float .f64 U, rv, iv]).new [.float .f64 0, .float .f64 0, .slice none 0 0, .slice none 0 0]
  have hx : (newAt s (.cells [.float .f64 T, .float .f64 U, rv, iv] false)).nxt = s.nxt + 1 := rfl
  rw [hx] at H1
  generalize newAt (newAt s (.cells [.float .f64 T, .float .f64 U, rv, iv] false)) (.cells [.float .f64 0, .float .f64 0, .slice none 0 0, .slice none 0 0] false) = s1 at H1 ⊢
  obtain ⟨cr, hr1, hr2⟩ := hr
  obtain ⟨ci, hi1, hi2⟩ := hi
  have hrl := hr1.len
  have hil := hi1.len
  have hbu : buildV [.float .f64 0, .float .f64 0, .slice none 0 0, .slice none 0 0] [(0, 1, .float .f64 T), (1, 1, .float .f64 U)] = some (.agg #[.float .f64 T, .float .f64 U, .slice none 0 0, .slice none 0 0]) := rfl
  have c1 := H1.cell (List.mem_cons_of_mem _ (List.mem_cons_self ..))
  have L0 := load_g (o := 0) c1
  have L1 := load_g (o := 1) c1
  simp only [List.getElem?_cons_zero, List.getElem?_cons_succ] at L0 L1
  have H2 := H1.new [.float .f64 0, .float .f64 0, .slice none 0 0, .slice none 0 0]
  have st := store_all (n := 4) (vs := [.float .f64 T, .float .f64 U, .slice none 0 0, .slice none 0 0]) (H2.cell (List.mem_cons_self ..)) rfl rfl rfl
  simp only [List.toArray] at st
  have H3 := H2.setc (cs' := [.float .f64 T, .float .f64 U, .slice none 0 0, .slice none 0 0])
  refine W_seq (W_ops [1, 2, 3] ?_)
  simp only [o19_1, WO_alloc, WO_build, WO_fieldAddr, fieldAddr_p, WO_load, WO_store, WO_nil, PureK_some, MemK_some, geT_put, puT_none, evO_tmp, keep_nil, keep_cons, keepK_eq, List.map_cons, List.map_nil, Nat.reduceEqDiff, ↓reduceIte, eq_self, Nat.zero_add, Nat.add_zero, e1, e2, L0, L1, hbu, st]
  clear e1 e2
  intro fr e1 e2 e3
  refine SeqK_n ?_
  clear H2 st c1 L0 L1
  generalize setBlk (newAt s1 (.cells [.float .f64 0, .float .f64 0, .slice none 0 0, .slice none 0 0] false)) s1.nxt (.cells [.float .f64 T, .float .f64 U, .slice none 0 0, .slice none 0 0] false) = s2 at H3 ⊢
  have B3 := s1.nxt
  refine W_assoc ?_
  refine W_seq (W_ops [1, 2, 3, 4] ?_)
  simp only [o19_2, WO_move, WO_nil, geT_put, evO_const, keep_nil, keep_cons, keepK_eq, Nat.reduceEqDiff, ↓reduceIte, eq_self, e1, e2, e3]
  clear e1 e2 e3
  intro fr e1 e2 e3 e4
  refine SeqK_n ?_
  refine W_seq (W_block (W_loop (fun m fr s4 => ∃ k w, k + m = re.length ∧ geT fr 1 = .pointer (some ⟨s.nxt, 0, none⟩) ∧ geT fr 2 = .pointer (some ⟨s.nxt + 1, 0, none⟩) ∧ geT fr 3 = .pointer (some ⟨s1.nxt, 0, none⟩) ∧ geT fr 4 = .int .i64 (k : Nat) ∧
    Hold s s4 [HP.tab 1 eI w (re.take k) [], HP.cell s1.nxt [.float .f64 T, .float .f64 U, w, .slice none 0 0], HP.cell (s.nxt + 1) [.float .f64 0, .float .f64 0, .slice none 0 0, .slice none 0 0], HP.cell s.nxt [.float .f64 T, .float .f64 U, rv, iv]]) re.length
    ⟨0, _, by omega, e1, e2, e3, e4, by simpa using H3.nilT 1 eI⟩ ?_))
  · clear e1 e2 e3 e4 fr H3 s2
    rintro m fr s4 ⟨k, w, hm, e1, e2, e3, e4, H4⟩
    have cl := H4.cell (List.mem_cons_of_mem _ (List.mem_cons_of_mem _ (List.mem_cons_of_mem _ (List.mem_cons_self ..))))
    have L2 := load_g (o := 2) cl
    simp only [List.getElem?_cons_zero, List.getElem?_cons_succ] at L2
    refine W_assoc ?_
    refine W_seq (W_ops [1, 2, 3, 4, 15] ?_)
    simp only [o19_4, WO_bin, WO_bu, WO_fieldAddr, fieldAddr_p, WO_load, WO_move, bin_lss, WO_nil, PureK_some, geT_put, evO_tmp, keep_nil, keep_cons, keepK_eq, List.map_cons, List.map_nil, Nat.reduceEqDiff, ↓reduceIte, eq_self, Nat.zero_add, e1, e2, e3, e4, L2, hrl]
    clear e1 e2 e3 e4
    intro fr e1 e2 e3 e4 e15
    refine SeqK_n ?_
    refine W_while e15 (fun hlt => ?_) (fun hlt => ?_)
    · have hk : k < re.length := by omega
      obtain ⟨c, hc1, hc2⟩ := hr2 k re[k] (by simp [hk])
      have hk2 := hn1 re[k] (by simp)
      refine W_seq (W_block (W_drawM [1, 2, 3, 4] 2 rfl ?_))
      intro s' hh hn hs'
      have H5 := H4.reserve hn hs'
      have H6 := H5.fill []
      generalize hsA : setH s' (Store.put s'.h s4.nxt (some (.cells [] false))) = sA at H6
      have H7 := (H6.cellOwn (sz := 1) (n := 0) rfl (by unfold OPEN; omega))
      have hcA := hc2.same H7.same (fun _ _ h => h)
      obtain ⟨v1, sB, ap1, H8⟩ := H7.append (bytes := 2) hcA.src hcA.length (by rw [List.all_map]; simp [oneCell]) (by omega) (by omega) (by omega) (by omega)
      rw [List.nil_append, Nat.zero_add, ← flat_eI] at H8
      have hv1 : oneCell v1 = true := (H8.own (List.mem_cons_self ..)).one
      have H9 := H8.up1.fill [v1]
      generalize hsC : setH sB (Store.put sB.h (s4.nxt + 1) (some (.cells [v1] false))) = sC at H9
      have hxC : srcCells sC 1 (.slice (some ⟨s4.nxt + 1, 0, none⟩) 1 1) = some (1, [v1]) :=
        ((H9.cellOwn (sz := 1) (n := 1) rfl (by unfold OPEN; omega)).own (List.mem_cons_self ..)).slc.src
      obtain ⟨w', sD, ap2, H10⟩ := (H9.tail).pushRowX rfl hxC (bytes := 24) (by omega) (by omega) (by rw [List.length_take]; omega)
      rw [← take_snoc] at H10
      have H11 := H10.up1
      have hw' : oneCell w' = true := by
        obtain ⟨K, ⟨rc, a, _⟩, _⟩ := H10.mem (List.mem_cons_self ..)
        exact a.one
      have st := store_g (o := 2) (x := w') (H11.cell (List.mem_cons_self ..)) hw' (by simp)
      have H12 := (H11.setc (cs' := [.float .f64 T, .float .f64 U, w', .slice none 0 0])).up1
      -- what is read
      have clN := H5.cell (List.mem_cons_of_mem _ (List.mem_cons_of_mem _ (List.mem_cons_of_mem _ (List.mem_cons_self ..))))
      have clO := H5.cell (List.mem_cons_of_mem _ (List.mem_cons_of_mem _ (List.mem_cons_of_mem _ (List.mem_cons_of_mem _ (List.mem_cons_of_mem _ (List.mem_cons_self ..))))))
      have M2 := load_g (o := 2) clN
      have O2 := load_g (o := 2) clO
      have M2B := load_g (o := 2) (H8.cell (List.mem_cons_of_mem _ (List.mem_cons_of_mem _ (List.mem_cons_of_mem _ (List.mem_cons_self ..)))))
      simp only [List.getElem?_cons_zero, List.getElem?_cons_succ] at M2 O2 M2B
      have A1 := (hr1.same H5.same (fun _ _ h => h)).load hc1
      have B1 := hr1.addr (kk := .i64) (i := (k : Int)) rfl hk
      rw [Nat.mul_one] at B1
      have hwo : sameO (some w) w = true := by
        obtain ⟨K, ⟨rc, a, _⟩, _⟩ := H4.mem (List.mem_cons_self ..)
        exact a.slc.sameO
      simp only [d19_5, WD_move, WD_fieldAddr, WD_addrSl, WD_load, WD_buildSlice, WD_store, WD_append, WD_nil, DPureK_some, DReadK_some, DActK_some, DNewK_some, pastR_nil, preHead_nil, preHead_cons, joinF_nil, joinF_cons, joinAll_nil, setH_self, Nat.testBit, Nat.reduceShiftRight, Nat.reduceAnd, Nat.reduceBneDiff, List.all_nil, List.all_cons, List.filter_nil, List.filter_cons, bne_self_eq_false, geT_put, puT_none, evO_tmp, keep_nil, keep_cons, keepK_eq, List.map_cons, List.map_nil, Nat.reduceEqDiff, Nat.reduceAdd, ↓reduceIte, fieldAddr_p, Bool.not_true, Bool.not_false, Bool.and_true, Bool.or_true, Bool.true_or, eq_self, Bool.false_eq_true, true_and, Nat.zero_add, Nat.mul_one, e1, e2, e3, e4, M2, O2, B1, A1, buildSlD_0, hsA, ap1, M2B, hwo, buildSlD_1 hv1, hsC, ap2, st]
      clear e1 e2 e3 e4
      intro fr e1 e2 e3 e4
      refine BlkK_n (SeqK_n ?_)
      refine W_ops [1, 2, 3, 4] ?_
      simp only [o19_6, WO_bin, WO_move, bin_add, WO_nil, PureK_some, geT_put, evO_tmp, evO_const, keep_nil, keep_cons, keepK_eq, Nat.reduceEqDiff, ↓reduceIte, eq_self, e1, e2, e3, e4, wrap_i64 (n := (k : Int) + 1) (by omega) (by omega)]
      clear e1 e2 e3 e4
      intro fr e1 e2 e3 e4
      exact LoopK_n (m' := m - 1) (by omega) ⟨k + 1, w', by omega, e1, e2, e3, by rw [e4]; rfl, H12⟩
    · have hkk : k = re.length := by omega
      rw [hkk, List.take_length] at H4
      refine LoopK_x (BlkK_e (SeqK_n ?_))
      refine W_assoc ?_
      refine W_seq (W_ops [1, 2, 3, 5] ?_)
      simp only [o19_7, WO_move, WO_nil, geT_put, evO_const, keep_nil, keep_cons, keepK_eq, Nat.reduceEqDiff, ↓reduceIte, eq_self, e1, e2, e3]
      clear e1 e2 e3 e4 e15
      intro fr e1 e2 e3 e5
      refine SeqK_n ?_
      have hwone : oneCell w = true := by
        obtain ⟨K, ⟨rc, a, _⟩, _⟩ := H4.mem (List.mem_cons_self ..)
        exact a.one
      refine W_seq (W_block (W_loop (fun m fr s4 => ∃ k u, k + m = im.length ∧ geT fr 1 = .pointer (some ⟨s.nxt, 0, none⟩) ∧ geT fr 2 = .pointer (some ⟨s.nxt + 1, 0, none⟩) ∧ geT fr 3 = .pointer (some ⟨s1.nxt, 0, none⟩) ∧ geT fr 5 = .int .i64 (k : Nat) ∧
        Hold s s4 [HP.tab 1 eI u (im.take k) [], HP.cell s1.nxt [.float .f64 T, .float .f64 U, w, u], HP.cell (s.nxt + 1) [.float .f64 0, .float .f64 0, .slice none 0 0, .slice none 0 0], HP.cell s.nxt [.float .f64 T, .float .f64 U, rv, iv], HP.tab 1 eI w re []]) im.length
        ⟨0, _, by omega, e1, e2, e3, e5, by simpa using H4.down3.nilT 1 eI⟩ ?_))
      clear e1 e2 e3 e5 fr cl L2 H4 hkk hlt hm hrl
      rintro m fr s4 ⟨k, u, hm, e1, e2, e3, e5, H4⟩
      have cl := H4.cell (List.mem_cons_of_mem _ (List.mem_cons_of_mem _ (List.mem_cons_of_mem _ (List.mem_cons_self ..))))
      have L3 := load_g (o := 3) cl
      simp only [List.getElem?_cons_zero, List.getElem?_cons_succ] at L3
      refine W_assoc ?_
      refine W_seq (W_ops [1, 2, 3, 5, 34] ?_)
      simp only [o19_9, WO_bin, WO_bu, WO_fieldAddr, fieldAddr_p, WO_load, WO_move, bin_lss, WO_nil, PureK_some, geT_put, evO_tmp, keep_nil, keep_cons, keepK_eq, List.map_cons, List.map_nil, Nat.reduceEqDiff, ↓reduceIte, eq_self, Nat.zero_add, e1, e2, e3, e5, L3, hil]
      clear e1 e2 e3 e5
      intro fr e1 e2 e3 e5 e34
      refine SeqK_n ?_
      refine W_while e34 (fun hlt => ?_) (fun hlt => ?_)
      · have hk : k < im.length := by omega
        obtain ⟨c, hc1, hc2⟩ := hi2 k im[k] (by simp [hk])
        have hk2 := hn2 im[k] (by simp)
        refine W_seq (W_block (W_drawM [1, 2, 3, 5] 2 rfl ?_))
        intro s' hh hn hs'
        have H5 := H4.reserve hn hs'
        have H6 := H5.fill []
        generalize hsA : setH s' (Store.put s'.h s4.nxt (some (.cells [] false))) = sA at H6
        have H7 := (H6.cellOwn (sz := 1) (n := 0) rfl (by unfold OPEN; omega))
        have hcA := hc2.same H7.same (fun _ _ h => h)
        obtain ⟨v1, sB, ap1, H8⟩ := H7.append (bytes := 2) hcA.src hcA.length (by rw [List.all_map]; simp [oneCell]) (by omega) (by omega) (by omega) (by omega)
        rw [List.nil_append, Nat.zero_add, ← flat_eI] at H8
        have hv1 : oneCell v1 = true := (H8.own (List.mem_cons_self ..)).one
        have H9 := H8.up1.fill [v1]
        generalize hsC : setH sB (Store.put sB.h (s4.nxt + 1) (some (.cells [v1] false))) = sC at H9
        have hxC : srcCells sC 1 (.slice (some ⟨s4.nxt + 1, 0, none⟩) 1 1) = some (1, [v1]) :=
          ((H9.cellOwn (sz := 1) (n := 1) rfl (by unfold OPEN; omega)).own (List.mem_cons_self ..)).slc.src
        obtain ⟨u', sD, ap2, H10⟩ := (H9.tail).pushRowX rfl hxC (bytes := 24) (by omega) (by omega) (by rw [List.length_take]; omega)
        rw [← take_snoc] at H10
        have H11 := H10.up1
        have hu' : oneCell u' = true := by
          obtain ⟨K, ⟨rc, a, _⟩, _⟩ := H10.mem (List.mem_cons_self ..)
          exact a.one
        have st := store_g (o := 3) (x := u') (H11.cell (List.mem_cons_self ..)) hu' (by simp)
        have H12 := (H11.setc (cs' := [.float .f64 T, .float .f64 U, w, u'])).up1
        have clN := H5.cell (List.mem_cons_of_mem _ (List.mem_cons_of_mem _ (List.mem_cons_of_mem _ (List.mem_cons_self ..))))
        have clO := H5.cell (List.mem_cons_of_mem _ (List.mem_cons_of_mem _ (List.mem_cons_of_mem _ (List.mem_cons_of_mem _ (List.mem_cons_of_mem _ (List.mem_cons_self ..))))))
        have M3 := load_g (o := 3) clN
        have O3 := load_g (o := 3) clO
        have M3B := load_g (o := 3) (H8.cell (List.mem_cons_of_mem _ (List.mem_cons_of_mem _ (List.mem_cons_of_mem _ (List.mem_cons_self ..)))))
        simp only [List.getElem?_cons_zero, List.getElem?_cons_succ] at M3 O3 M3B
        have A1 := (hi1.same H5.same (fun _ _ h => h)).load hc1
        have B1 := hi1.addr (kk := .i64) (i := (k : Int)) rfl hk
        rw [Nat.mul_one] at B1
        have huo : sameO (some u) u = true := by
          obtain ⟨K, ⟨rc, a, _⟩, _⟩ := H4.mem (List.mem_cons_self ..)
          exact a.slc.sameO
        simp only [d19_10, WD_move, WD_fieldAddr, WD_addrSl, WD_load, WD_buildSlice, WD_store, WD_append, WD_nil, DPureK_some, DReadK_some, DActK_some, DNewK_some, pastR_nil, preHead_nil, preHead_cons, joinF_nil, joinF_cons, joinAll_nil, setH_self, Nat.testBit, Nat.reduceShiftRight, Nat.reduceAnd, Nat.reduceBneDiff, List.all_nil, List.all_cons, List.filter_nil, List.filter_cons, bne_self_eq_false, geT_put, puT_none, evO_tmp, keep_nil, keep_cons, keepK_eq, List.map_cons, List.map_nil, Nat.reduceEqDiff, Nat.reduceAdd, ↓reduceIte, fieldAddr_p, Bool.not_true, Bool.not_false, Bool.and_true, Bool.or_true, Bool.true_or, eq_self, Bool.false_eq_true, true_and, Nat.zero_add, Nat.mul_one, e1, e2, e3, e5, M3, O3, B1, A1, buildSlD_0, hsA, ap1, M3B, huo, buildSlD_1 hv1, hsC, ap2, st]
        clear e1 e2 e3 e5
        intro fr e1 e2 e3 e5
        refine BlkK_n (SeqK_n ?_)
        refine W_ops [1, 2, 3, 5] ?_
        simp only [o19_11, WO_bin, WO_move, bin_add, WO_nil, PureK_some, geT_put, evO_tmp, evO_const, keep_nil, keep_cons, keepK_eq, Nat.reduceEqDiff, ↓reduceIte, eq_self, e1, e2, e3, e5, wrap_i64 (n := (k : Int) + 1) (by omega) (by omega)]
        clear e1 e2 e3 e5
        intro fr e1 e2 e3 e5
        exact LoopK_n (m' := m - 1) (by omega) ⟨k + 1, u', by omega, e1, e2, e3, by rw [e5]; rfl, H12⟩
      · have hkk : k = im.length := by omega
        rw [hkk, List.take_length] at H4
        have huone : oneCell u = true := by
          obtain ⟨K, ⟨rc, a, _⟩, _⟩ := H4.mem (List.mem_cons_self ..)
          exact a.one
        refine LoopK_x (BlkK_e (SeqK_n ?_))
        have ld := loadn_all (n := 4) (H4.cell (List.mem_cons_of_mem _ (List.mem_cons_self ..))) rfl
        have H5 := H4.up2
        have st := store_all (n := 4) (vs := [.float .f64 T, .float .f64 U, w, u]) (H5.cell (List.mem_cons_self ..)) rfl rfl (by simp only [List.all_cons, hwone, huone, List.all_nil, Bool.and_true]; rfl)
        have H6 := H5.setc (cs' := [.float .f64 T, .float .f64 U, w, u])
        refine W_seq (W_ops [2] ?_)
        simp only [o19_12, WO_load, WO_store, WO_nil, PureK_some, MemK_some, geT_put, puT_none, evO_tmp, keep_nil, keep_cons, keepK_eq, Nat.reduceEqDiff, ↓reduceIte, eq_self, e2, e3, ld, st]
        clear e1 e2 e3 e5 e34
        intro fr e2
        refine SeqK_n ?_
        refine W_ret (RetC1 e2 (loadn_all (n := 4) (H6.cell (List.mem_cons_self ..)) rfl) ⟨w, u, rfl, hwone, huone, ?_⟩)
        exact H.app ((H6.tail.up1.tail.up1.tail).up1)

end Go.Proofs.Ytkfcejhebepdkaa

/- The law of a frame's rows and bytes: its run. -/
namespace Go.Proofs.Ytkfcejhebepdkaa
open Go Go.Vam

theorem TabC.tabE {s : Mm} {v : Value} {rows : List (List Int)} (h : TabC s v rows) : TabE s 1 eI v rows := by
  obtain ⟨c, a, b⟩ := h
  exact ⟨c, a, fun i r h => let ⟨x, y, z⟩ := b i r h; ⟨x, y, by rw [flat_eI]; exact z⟩⟩

def RX (T U : Nat) (re im : List (List Int)) : List (List (Nat × Nat)) := if chkE T U re im = 0 then rowsX U re im else []
def BX (T U : Nat) (re im : List (List Int)) : List UInt8 := if chkE T U re im = 0 then encF T U re im else []

theorem RX_len {T U : Nat} {re im : List (List Int)} : (RX T U re im).length ≤ 256 ∧ ∀ r ∈ RX T U re im, r.length ≤ 16384 := by
  unfold RX
  split
  · rename_i h
    obtain ⟨_, _, h1, h2⟩ := chk_spec h
    obtain ⟨l1, l2, l3⟩ := okB_spec h1
    obtain ⟨m1, m2, m3⟩ := large_spec h2
    refine ⟨by rw [rowsX_len rfl l1.symm]; exact m1, fun r hr => ?_⟩
    obtain ⟨i, hi⟩ := List.mem_iff_getElem?.1 hr
    unfold rowsX at hi
    rw [List.getElem?_zipWith] at hi
    split at hi
    · rename_i a b ha hb
      cases hi
      rw [rowX_len (l2 _ (List.mem_of_getElem? ha)) (l3 _ (List.mem_of_getElem? hb))]
      exact m2
    · cases hi
  · simp

theorem BX_len {T U : Nat} {re im : List (List Int)} : (BX T U re im).length ≤ 2000000 := by
  unfold BX
  split
  · rename_i h
    obtain ⟨_, _, h1, h2⟩ := chk_spec h
    obtain ⟨l1, l2, l3⟩ := okB_spec h1
    obtain ⟨m1, m2, m3⟩ := large_spec h2
    have := encRows_length (n := colsN re) re im l1 l2 l3
    have hh : (encHead T U re.length (colsN re)).length = 27 := by simp [encHead, hdr, beN_length]
    simp only [encF, encBody, List.length_append, beN_length, hh, this]
    omega
  · simp


theorem do20 {X : Ctx} (hX : X.fns = fnsOf Try.prog) (ho : ∀ f args, f ≠ 9 → X.orc f args = none) {s0 s : Mm} {l : List HP} (H : Hold s0 s l) {rv iv : Value} {T U : Nat} {re im : List (List Int)} (hr : TabC s rv re) (hi : TabC s iv im) (hlr : re.length ≤ 9223372036854775807) :
    CallP X 20 [.agg #[.float .f64 T, .float .f64 U, rv, iv]] s (fun r s' => ∃ v, r = .tuple #[v, .int .i64 (chkE T U re im : Nat)] ∧ Hold s0 s' (HP.tab 1 eX v (RX T U re im) [] :: l)) := by
  refine (run20 hX ho hr hi hlr).mono ?_
  rintro r s' ⟨hs, ⟨h1, h2⟩ | ⟨h1, v, h2, h3⟩⟩
  · refine ⟨_, h2, ?_⟩
    rw [RX, if_neg h1]
    exact (H.keep hs).nilT 1 eX
  · refine ⟨v, by rw [h1]; exact h2, ?_⟩
    rw [RX, if_pos h1]
    exact H.app h3

theorem do21 {X : Ctx} (hX : X.fns = fnsOf Try.prog) (ho : ∀ f args, f ≠ 9 → X.orc f args = none) {s0 s : Mm} {l : List HP} (H : Hold s0 s l) {rv iv : Value} {T U : Nat} {re im : List (List Int)} (hr : TabC s rv re) (hi : TabC s iv im) (hlr : re.length ≤ 9223372036854775807) (hT : T < 18446744073709551616) (hU : U < 18446744073709551616) :
    CallP X 21 [.agg #[.float .f64 T, .float .f64 U, rv, iv]] s (fun r s' => ∃ v, r = .tuple #[v, .int .i64 (chkE T U re im : Nat)] ∧ Hold s0 s' (HP.tab 2 eC v (RX T U re im) [] :: l)) := by
  refine (run21 hX ho hr hi hlr hT hU).mono ?_
  rintro r s' ⟨hs, ⟨h1, h2⟩ | ⟨h1, v, h2, h3⟩⟩
  · refine ⟨_, h2, ?_⟩
    rw [RX, if_neg h1]
    exact (H.keep hs).nilT 2 eC
  · refine ⟨v, by rw [h1]; exact h2, ?_⟩
    rw [RX, if_pos h1]
    exact H.app h3

theorem do22 {X : Ctx} (hX : X.fns = fnsOf Try.prog) (ho : ∀ f args, f ≠ 9 → X.orc f args = none) {s0 s : Mm} {l : List HP} (H : Hold s0 s l) {rv iv : Value} {T U : Nat} {re im : List (List Int)} (hr : TabC s rv re) (hi : TabC s iv im) (hlr : re.length ≤ 9223372036854775807) (hT : T < 18446744073709551616) (hU : U < 18446744073709551616) :
    CallP X 22 [.agg #[.float .f64 T, .float .f64 U, rv, iv]] s (fun r s' => ∃ v, r = .tuple #[v, .int .i64 (chkE T U re im : Nat)] ∧ Hold s0 s' (HP.own 1 v (BX T U re im).length (bsV (BX T U re im)) :: l)) := by
  refine (run22 hX ho hr hi hlr hT hU).mono ?_
  rintro r s' ⟨hs, ⟨h1, h2⟩ | ⟨h1, v, n, h2, h3⟩⟩
  · refine ⟨_, h2, ?_⟩
    rw [BX, if_neg h1]
    exact (H.keep hs).nil 1
  · have hn : n = (encF T U re im).length := by have := (h3.own (List.mem_cons_self ..)).length; rw [bsV_length] at this; omega
    subst hn
    refine ⟨v, by rw [h1]; exact h2, ?_⟩
    rw [BX, if_pos h1]
    exact H.app h3

theorem do18 {X : Ctx} (hX : X.fns = fnsOf Try.prog) (ho : ∀ f args, f ≠ 9 → X.orc f args = none) {s0 s : Mm} {l : List HP} (H : Hold s0 s l) {rv iv : Value} {T U : Nat} {re im : List (List Int)} (hr : TabC s rv re) (hi : TabC s iv im) (hlr : re.length ≤ 9223372036854775807) :
    CallP X 18 [.agg #[.float .f64 T, .float .f64 U, rv, iv]] s (fun r s' => ∃ v, r = .tuple #[v, .int .i64 (chkE T U re im : Nat)] ∧ Hold s0 s' (HP.own 1 v (BX T U re im).length (bsV (BX T U re im)) :: l)) := by
  refine (run18 hX ho hr hi hlr).mono ?_
  rintro r s' ⟨hs, ⟨h1, h2⟩ | ⟨h1, v, n, h2, h3, h4⟩⟩
  · refine ⟨_, h2, ?_⟩
    rw [BX, if_neg h1]
    exact (H.keep hs).nil 1
  · have hn : n = (encF T U re im).length := by have := h3.length; rw [bsV_length] at this; omega
    subst hn
    refine ⟨v, by rw [h1]; exact h2, ?_⟩
    rw [BX, if_pos h1]
    exact H.add hs (K' := footV v) ⟨h3, rfl⟩ (fun B hB => ⟨h4 B hB, h3.slc.foot B hB⟩)

set_option maxHeartbeats 4000000 in
theorem run6 {X : Ctx} (hX : X.fns = fnsOf Try.prog) (ho : ∀ f args, f ≠ 9 → X.orc f args = none) (hw : X.orc 9 [] = some (.bool true)) {s : Mm} {rv iv : Value} {T U : Nat} {re im : List (List Int)} (hr : TabC s rv re) (hi : TabC s iv im) (hlr : re.length ≤ 5864062014805) (hli : im.length ≤ 5864062014805) (hn1 : ∀ r ∈ re, r.length ≤ 70368744177664) (hn2 : ∀ r ∈ im, r.length ≤ 70368744177664)
    (hT : T < 18446744073709551616) (hU : U < 18446744073709551616) :
    CallP X 6 [.agg #[.float .f64 T, .float .f64 U, rv, iv]] s (fun r _ => r = .bool true) := by
  refine CallP_of (hX ▸ ir6_eq) (ho _ _ (by decide)) (Nat.le_of_ble_eq_true rfl) ?_
  have hbx : (Value.agg #[.float .f64 T, .float .f64 U, rv, iv]).cells.toList = [.float .f64 T, .float .f64 U, rv, iv] := rfl
  refine W_seq (W_ops [1] ?_)
  simp only [o6_0, WO_box, WO_move, WO_nil, geT_put, frame_nil, frame_cons, evO_tmp, evO_const, keep_nil, keep_cons, keepK_eq, Nat.reduceEqDiff, ↓reduceIte, eq_self, Nat.zero_add, hbx]
  intro fr e1
  refine SeqK_n ?_
  have H1 := (Hold.refl s).new [.float .f64 T, .float .f64 U, rv, iv]
  generalize newAt s (.cells [.float .f64 T, .float .f64 U, rv, iv] false) = s1 at H1 ⊢
  refine W_seq (W_ops [1, 3] ?_)
  simp only [o6_1, WO_call, WO_load, PureK_some, geT_put, evO_tmp, List.map_cons, List.map_nil, ↓reduceIte, eq_self, e1, loadn_all (n := 4) (H1.cell (List.mem_cons_self ..)) rfl]
  refine CallK_of (run19 hX ho H1 (hr.same H1.same) (hi.same H1.same) hlr hli hn1 hn2) ?_
  rintro _ s2 ⟨rv', iv', rfl, hro, hio, H2⟩
  have H3 := H2.new [.float .f64 0, .float .f64 0, .slice none 0 0, .slice none 0 0]
  have st := store_all (n := 4) (vs := [.float .f64 T, .float .f64 U, rv', iv']) (H3.cell (List.mem_cons_self ..)) rfl rfl (by simp only [List.all_cons, hro, hio, List.all_nil, Bool.and_true]; rfl)
  simp only [List.toArray] at st
  have H4 := H3.setc (cs' := [.float .f64 T, .float .f64 U, rv', iv'])
  simp only [WO_alloc, WO_store, WO_nil, MemK_some, geT_put, puT_none, evO_tmp, keep_nil, keep_cons, keepK_eq, Nat.reduceEqDiff, ↓reduceIte, eq_self, e1, st]
  clear e1
  intro fr e1 e3
  refine SeqK_n ?_
  clear H1 H2 H3 st
  generalize setBlk (newAt s2 (.cells [.float .f64 0, .float .f64 0, .slice none 0 0, .slice none 0 0] false)) s2.nxt (.cells [.float .f64 T, .float .f64 U, rv', iv'] false) = s4 at H4 ⊢
  have C3 : ∀ {s' l}, Hold s s' l → HP.cell s2.nxt [.float .f64 T, .float .f64 U, rv', iv'] ∈ l → loadV s' (some 4) (.pointer (some ⟨s2.nxt, 0, none⟩)) = some (.agg #[.float .f64 T, .float .f64 U, rv', iv']) := fun h hm => loadn_all (n := 4) (h.cell hm) rfl
  have C1 : ∀ {s' l}, Hold s s' l → HP.cell s.nxt [.float .f64 T, .float .f64 U, rv, iv] ∈ l → loadV s' (some 4) (.pointer (some ⟨s.nxt, 0, none⟩)) = some (.agg #[.float .f64 T, .float .f64 U, rv, iv]) := fun h hm => loadn_all (n := 4) (h.cell hm) rfl
  have i0 : ∀ {a : HP} {l : List HP}, a ∈ a :: l := fun {a l} => List.mem_cons_self ..
  have iS : ∀ {a b : HP} {l : List HP}, a ∈ l → a ∈ b :: l := fun {a b l} h => List.mem_cons_of_mem _ h
  refine W_seq (W_ops [1, 3, 4, 5] ?_)
  simp only [o6_2, WO_call, WO_load, PureK_some, geT_put, evO_tmp, List.map_cons, List.map_nil, ↓reduceIte, eq_self, e3, C3 H4 i0]
  refine CallK_of (do20 hX ho H4 (TabE.tabC (H4.tab (iS i0))) (TabE.tabC (H4.tab (iS (iS i0)))) (by omega)) ?_
  rintro _ s5 ⟨av, rfl, H5⟩
  simp only [WO_extract, ext_20, ext_21, WO_move, WO_nil, PureK_some, geT_put, evO_tmp, keep_nil, keep_cons, keepK_eq, Nat.reduceEqDiff, ↓reduceIte, eq_self, e1, e3]
  clear e1 e3
  intro fr e1 e3 e4 e5
  refine SeqK_n ?_
  refine W_seq (W_ops [1, 3, 4, 5, 6, 7] ?_)
  simp only [o6_3, WO_call, WO_load, PureK_some, geT_put, evO_tmp, List.map_cons, List.map_nil, ↓reduceIte, eq_self, e3, C3 H5 (iS i0)]
  refine CallK_of (do18 hX ho H5 (TabE.tabC (H5.tab (iS (iS i0)))) (TabE.tabC (H5.tab (iS (iS (iS i0))))) (by omega)) ?_
  rintro _ s6 ⟨bv, rfl, H6⟩
  simp only [WO_extract, ext_20, ext_21, WO_move, WO_nil, PureK_some, geT_put, evO_tmp, keep_nil, keep_cons, keepK_eq, Nat.reduceEqDiff, ↓reduceIte, eq_self, e1, e3, e4, e5]
  clear e1 e3 e4 e5
  intro fr e1 e3 e4 e5 e6 e7
  refine SeqK_n ?_
  refine W_seq (W_ops [1, 3, 4, 5, 6, 7, 8, 9] ?_)
  simp only [o6_4, WO_call, WO_load, PureK_some, geT_put, evO_tmp, List.map_cons, List.map_nil, ↓reduceIte, eq_self, e1, C1 H6 (iS (iS (iS (iS (iS i0)))))]
  refine CallK_of (do21 hX ho H6 (hr.same H6.same) (hi.same H6.same) (by omega) hT hU) ?_
  rintro _ s7 ⟨wv, rfl, H7⟩
  simp only [WO_extract, ext_20, ext_21, WO_move, WO_nil, PureK_some, geT_put, evO_tmp, keep_nil, keep_cons, keepK_eq, Nat.reduceEqDiff, ↓reduceIte, eq_self, e1, e3, e4, e5, e6, e7]
  clear e1 e3 e4 e5 e6 e7
  intro fr e1 e3 e4 e5 e6 e7 e8 e9
  refine SeqK_n ?_
  refine W_seq (W_ops [1, 3, 4, 5, 6, 7, 8, 9, 10, 11] ?_)
  simp only [o6_5, WO_call, WO_load, PureK_some, geT_put, evO_tmp, List.map_cons, List.map_nil, ↓reduceIte, eq_self, e1, C1 H7 (iS (iS (iS (iS (iS (iS i0))))))]
  refine CallK_of (do22 hX ho H7 (hr.same H7.same) (hi.same H7.same) (by omega) hT hU) ?_
  rintro _ s8 ⟨yv, rfl, H8⟩
  clear H4 H5 H6 H7
  simp only [WO_extract, ext_20, ext_21, WO_move, WO_nil, PureK_some, geT_put, evO_tmp, keep_nil, keep_cons, keepK_eq, Nat.reduceEqDiff, ↓reduceIte, eq_self, e1, e3, e4, e5, e6, e7, e8, e9]
  clear e1 e3 e4 e5 e6 e7 e8 e9
  intro fr e1 e3 e4 e5 e6 e7 e8 e9 e10 e11
  refine SeqK_n ?_
  obtain ⟨R, hR⟩ : ∃ R, R = RX T U re im := ⟨_, rfl⟩
  obtain ⟨B, hB⟩ : ∃ B, B = BX T U re im := ⟨_, rfl⟩
  have hRl := RX_len (T := T) (U := U) (re := re) (im := im)
  have hBl := BX_len (T := T) (U := U) (re := re) (im := im)
  rw [← hR] at H8 hRl
  rw [← hB] at H8 hBl
  have tA := H8.tab (iS (iS (iS i0)) : HP.tab 1 eX av R [] ∈ _)
  refine W_assoc ?_
  refine W_seq (W_ops [1, 3, 6, 10, 11, 65] ?_)
  simp only [o6_6, WO_bin, WO_call, WO_move, WO_pick, pick_b, bin_neq, PureK_some, WO_guard, want_v, wantB_f, geT_put, evO_tmp, evO_const, List.map_cons, List.map_nil, Nat.reduceEqDiff, ↓reduceIte, Bool.not_true, Bool.not_false, decide_true, eq_self, Bool.false_eq_true, e4, e5, e7, e9, e11]
  refine CallK_of (run24 hX ho H8 tA (by omega) (fun r hr => by have := hRl.2 r hr; omega)) ?_
  rintro ov s9 H9
  simp only [WO_call, WO_move, WO_guard, want_v, wantB_f, geT_put, evO_tmp, List.map_cons, List.map_nil, Nat.reduceEqDiff, ↓reduceIte, Bool.not_false, eq_self, e8]
  refine CallK_of (run23 hX ho (H9.tab i0) (H9.tab (iS (iS i0))) (by omega) (fun r hr => by have := hRl.2 r hr; omega)) ?_
  rintro _ sa ⟨rfl, hsa⟩
  have HA := H9.tail.keep hsa
  clear H8 H9 hsa tA
  have tb := (Bs.of (HA.own (iS (iS i0))).slc : Bs sa bv B).text
  have ty := (Bs.of (HA.own i0).slc : Bs sa yv B).text
  have la := (HA.tab (iS (iS (iS i0)) : HP.tab 1 eX av R [] ∈ _)).len
  have lw := (HA.tab (iS i0 : HP.tab 2 eC wv R [] ∈ _)).len
  simp only [WO_bin, WO_bu, WO_move, WO_pick, pick_b, WO_text, WO_un, un_not, bin_neq, bins_neq, WO_nil, PureK_some, WO_guard, want_v, wantB_f, geT_put, evO_tmp, evO_const, keep_nil, keep_cons, keepK_eq, List.map_cons, List.map_nil, Nat.reduceEqDiff, ↓reduceIte, Bool.not_true, Bool.not_false, decide_true, eq_self, Bool.false_eq_true, e1, e3, e4, e6, e8, e10, e11, tb, ty, beq_self_eq_true, la, lw]
  clear e1 e3 e4 e5 e6 e7 e8 e9 e10 e11
  intro fr e1 e3 e6 e10 e11 e65
  refine SeqK_n ?_
  refine W_seq (W_cond e65 (fun h => by cases h) (fun _ => W_skip (SeqK_n ?_)))
  refine W_assoc ?_
  refine W_seq (W_ops [1, 3, 6, 10, 11, 12] ?_)
  simp only [o6_8, WO_move, WO_nil, geT_put, evO_const, keep_nil, keep_cons, keepK_eq, Nat.reduceEqDiff, ↓reduceIte, eq_self, e1, e3, e6, e10, e11]
  clear e1 e3 e6 e10 e11 e65
  intro fr e1 e3 e6 e10 e11 e12
  refine SeqK_n ?_
  have HB := HA.up2
  refine W_seq (W_block (W_loop (fun m fr s4 => ∃ k b, k + m = B.length ∧ b.length = B.length ∧ geT fr 1 = .pointer (some ⟨s.nxt, 0, none⟩) ∧ geT fr 3 = .pointer (some ⟨s2.nxt, 0, none⟩) ∧ geT fr 6 = bv ∧ geT fr 10 = yv ∧ geT fr 11 = .int .i64 (chkE T U re im : Nat) ∧ geT fr 12 = .int .i64 (k : Nat) ∧
    Hold s s4 (HP.own 1 bv B.length (bsV b) :: [HP.own 1 yv B.length (bsV B), HP.tab 2 eC wv R [], HP.tab 1 eX av R [], HP.cell s2.nxt [.float .f64 T, .float .f64 U, rv', iv'], HP.tab 1 eI rv' re [], HP.tab 1 eI iv' im [], HP.cell s.nxt [.float .f64 T, .float .f64 U, rv, iv]])) B.length ⟨0, B, by omega, rfl, e1, e3, e6, e10, e11, e12, HB⟩ ?_))
  clear e1 e3 e6 e10 e11 e12 fr HA HB tb ty la lw
  rintro m fr sb ⟨k, b, hm, hbl, e1, e3, e6, e10, e11, e12, HB⟩
  have lb := (HB.own i0).slc.len
  refine W_assoc ?_
  refine W_seq (W_ops [1, 3, 6, 10, 11, 12, 69] ?_)
  simp only [o6_10, WO_bin, WO_bu, WO_move, bin_lss, WO_nil, PureK_some, geT_put, evO_tmp, keep_nil, keep_cons, keepK_eq, List.map_cons, List.map_nil, Nat.reduceEqDiff, ↓reduceIte, eq_self, e1, e3, e6, e10, e11, e12, lb]
  clear e1 e3 e6 e10 e11 e12
  intro fr e1 e3 e6 e10 e11 e12 e69
  refine SeqK_n ?_
  refine W_while e69 (fun hlt => ?_) (fun hlt => ?_)
  · have hk : k < B.length := by omega
    obtain ⟨sc, st, HC⟩ := HB.store (k := k) (x := byteV 120) (by rw [bsV_length]; omega) rfl
    have ad := (HB.own i0).slc.addr (kk := .i64) (i := (k : Int)) rfl hk
    rw [Nat.mul_one] at ad
    have hset : (bsV b).set k (byteV 120) = bsV (b.set k 120) := by simp [bsV, List.map_set]
    rw [hset] at HC
    have st' : storeV sb 1 (elP bv k) (.int .u8 120) = some (undefV, sc) := st
    refine W_seq (W_block ?_)
    refine W_ops [1, 3, 6, 10, 11, 12] ?_
    simp only [o6_11, WO_addrSl, WO_move, WO_store, WO_nil, PureK_some, MemK_some, geT_put, puT_none, evO_tmp, evO_const, keep_nil, keep_cons, keepK_eq, Nat.reduceEqDiff, ↓reduceIte, eq_self, e1, e3, e6, e10, e11, e12, ad, st']
    clear e1 e3 e6 e10 e11 e12 e69
    intro fr e1 e3 e6 e10 e11 e12
    refine BlkK_n (SeqK_n ?_)
    refine W_ops [1, 3, 6, 10, 11, 12] ?_
    simp only [o6_12, WO_bin, WO_move, bin_add, WO_nil, PureK_some, geT_put, evO_tmp, evO_const, keep_nil, keep_cons, keepK_eq, Nat.reduceEqDiff, ↓reduceIte, eq_self, e1, e3, e6, e10, e11, e12, wrap_i64 (n := (k : Int) + 1) (by omega) (by omega)]
    clear e1 e3 e6 e10 e11 e12
    intro fr e1 e3 e6 e10 e11 e12
    exact LoopK_n (m' := m - 1) (by omega) ⟨k + 1, b.set k 120, by omega, by simpa using hbl, e1, e3, e6, e10, e11, by rw [e12]; rfl, HC⟩
  · refine LoopK_x (BlkK_e (SeqK_n ?_))
    refine W_seq (W_ops [1, 3, 10, 11, 13, 14] ?_)
    simp only [o6_13, WO_call, WO_load, PureK_some, geT_put, evO_tmp, List.map_cons, List.map_nil, ↓reduceIte, eq_self, e3, C3 HB (iS (iS (iS (iS i0))))]
    refine CallK_of (do18 hX ho HB (TabE.tabC (HB.tab (iS (iS (iS (iS (iS i0))))))) (TabE.tabC (HB.tab (iS (iS (iS (iS (iS (iS i0)))))))) (by omega)) ?_
    rintro _ sd ⟨cv, rfl, HD⟩
    rw [← hB] at HD
    simp only [WO_extract, ext_20, ext_21, WO_move, WO_nil, PureK_some, geT_put, evO_tmp, keep_nil, keep_cons, keepK_eq, Nat.reduceEqDiff, ↓reduceIte, eq_self, e1, e3, e10, e11]
    clear e1 e3 e6 e10 e11 e12 e69
    intro fr e1 e3 e10 e11 e13 e14
    refine SeqK_n ?_
    have tc := (Bs.of (HD.own i0).slc : Bs sd cv B).text
    have ty := (Bs.of (HD.own (iS (iS i0))).slc : Bs sd yv B).text
    refine W_seq (W_ops [2] ?_)
    simp only [o6_14, WO_bin, WO_call, WO_load, WO_move, WO_pick, pick_b, WO_text, bin_eql, bins_eql, PureK_some, WO_guard, want_v, wantB_t, geT_put, evO_tmp, evO_const, List.map_cons, List.map_nil, Nat.reduceEqDiff, ↓reduceIte, decide_true, eq_self, e1, e3, e10, e11, e13, e14, tc, ty, beq_self_eq_true, C3 HD (iS (iS (iS (iS (iS i0))))), C1 HD (iS (iS (iS (iS (iS (iS (iS (iS i0))))))))]
    refine CallK_of (run25_self hX ho (f := ⟨T, U, re, im⟩) (TabE.tabC (HD.tab (iS (iS (iS (iS (iS (iS i0)))))))) (TabE.tabC (HD.tab (iS (iS (iS (iS (iS (iS (iS i0))))))))) (hr.same HD.same) (hi.same HD.same) (by show re.length ≤ _; omega) (by show im.length ≤ _; omega) (fun r h => by have := hn1 r h; omega) (fun r h => by have := hn2 r h; omega)) ?_
    rintro _ se ⟨rfl, hse⟩
    simp only [WO_call, WO_move, WO_pick, pick_b, PureK_some, WO_guard, want_v, wantB_t, geT_put, evO_tmp, evO_const, List.map_nil, Nat.reduceEqDiff, ↓reduceIte, eq_self]
    refine CallK_eq (Call_orc hw) ?_
    simp only [WO_move, WO_pick, pick_b, WO_nil, PureK_some, geT_put, evO_tmp, evO_const, keep_nil, keep_cons, keepK_eq, Nat.reduceEqDiff, ↓reduceIte, eq_self]
    clear e1 e3 e10 e11 e13 e14
    intro fr e2
    refine SeqK_n ?_
    exact W_ret (Ret1 e2 rfl)

end Go.Proofs.Ytkfcejhebepdkaa

/- What is handed in: a frame, with its weights. -/
namespace Go.Vam
open Go Go.ChangeShapes

section
variable {P : Program} {T : Type} {s : Mm}

theorem wt_len {t e : TypeId} (ht : P.underlying t = some (.slice e)) {ds rest : List (DataW T)} {W : Nat} (h : ∀ n ∈ DataW.weights P t (.slice ds rest), n ≤ W) : ds.length * P.bytesOf e ≤ W := by
  have := h ((ds.length + rest.length) * P.bytesOf e) (by simp only [DataW.weights, ht]; exact List.mem_cons_self ..)
  exact Nat.le_trans (Nat.mul_le_mul_right _ (by omega)) this

theorem wt_all {e : TypeId} : ∀ {l : List (DataW T)} {d : DataW T}, d ∈ l → ∀ n ∈ d.weights P e, n ∈ DataW.weightsAll P e l
  | x :: r, d, hd, n, hn => by
    simp only [DataW.weightsAll, List.mem_append]
    rcases List.mem_cons.1 hd with rfl | hd
    · exact .inl hn
    · exact .inr (wt_all hd n hn)

theorem wt_el {t e : TypeId} (ht : P.underlying t = some (.slice e)) {ds rest : List (DataW T)} {W : Nat} (h : ∀ n ∈ DataW.weights P t (.slice ds rest), n ≤ W) {d : DataW T} (hd : d ∈ ds) : ∀ n ∈ d.weights P e, n ≤ W :=
  fun n hn => h n (by simp only [DataW.weights, ht]; exact List.mem_cons_of_mem _ (List.mem_append_left _ (wt_all hd n hn)))

/-- Elements of one cell of a kind, with what they weigh. -/
theorem Abs.onesW {α : Type} {f : α → Value} {p : α → Prop} {W : Nat} (hs : Lt s) {t e : TypeId} (ht : P.underlying t = some (.slice e)) (hsz : P.cellsOf e = 1) {cs : List Value} {d : DataW T} (h : Abs P s t cs d) (hw : ∀ n ∈ d.weights P t, n ≤ W)
    (hk : ∀ (l : List Value) (d : DataW T), Abs P s e l d → ∃ x, l = [f x] ∧ p x) :
    ∃ (v : Value) (xs : List α), cs = [v] ∧ SlC s 1 v xs.length (xs.map f) ∧ xs.length * P.bytesOf e ≤ W ∧ ∀ x ∈ xs, p x := by
  obtain ⟨v, ls, ds, h1, h2, h3, h4, h5⟩ := Abs.slW hs ht hsz h
  obtain ⟨xs, h6, h7⟩ := ones_of (f := f) (p := p) ls ds h3 (fun i l d hl hd => hk l d (h5 i l d hl hd).2)
  subst h6
  rw [flat_ones, List.length_map] at h2
  rw [List.length_map] at h3
  refine ⟨v, xs, h1, h2, ?_, h7⟩
  rcases h4 with h4 | ⟨rest, h4⟩
  · subst h4; simp only [List.length_nil] at h3; rw [← h3, Nat.zero_mul]; exact Nat.zero_le _
  · subst h4; rw [← h3]; exact wt_len ht hw

/-- A table of such. -/
theorem Abs.tabW {α : Type} {f : α → Value} {p : α → Prop} {W : Nat} (hs : Lt s) {t t' e : TypeId} (ht : P.underlying t = some (.slice t')) (ht' : P.underlying t' = some (.slice e)) (hsz' : P.cellsOf t' = 1) (hsz : P.cellsOf e = 1) {cs : List Value} {d : DataW T} (h : Abs P s t cs d) (hw : ∀ n ∈ d.weights P t, n ≤ W)
    (hk : ∀ (l : List Value) (d : DataW T), Abs P s e l d → ∃ x, l = [f x] ∧ p x) :
    ∃ (v : Value) (rows : List (List α)), cs = [v] ∧ TabE s 1 (fun x => [f x]) v rows ∧ rows.length * P.bytesOf t' ≤ W ∧ ∀ r ∈ rows, r.length * P.bytesOf e ≤ W ∧ ∀ x ∈ r, p x := by
  obtain ⟨v, ls, ds, h1, h2, h3, h4, h5⟩ := Abs.slW hs ht hsz' h
  have key : ∀ (ls : List (List Value)) (ds : List (DataW T)), ds.length = ls.length → (∀ d ∈ ds, ∀ n ∈ d.weights P t', n ≤ W) → (∀ (i : Nat) (l : List Value) (d : DataW T), ls[i]? = some l → ds[i]? = some d → Abs P s t' l d) →
      ∃ (rows : List (List α)), ls.length = rows.length ∧ ls.flatten.length = rows.length ∧ (∀ (i : Nat) (r : List α), rows[i]? = some r → (∃ c, ls.flatten[i]? = some c ∧ SlC s 1 c r.length (r.map f)) ∧ (∀ x ∈ r, p x) ∧ r.length * P.bytesOf e ≤ W) := by
    intro ls
    induction ls with
    | nil => intro ds _ _ _; exact ⟨[], rfl, rfl, fun i r h => by simp at h⟩
    | cons l ls ih =>
      intro ds hd hw h
      cases ds with
      | nil => simp at hd
      | cons d ds =>
        obtain ⟨c, xs, g1, g2, g3, g4⟩ := Abs.onesW hs ht' hsz (h 0 l d rfl rfl) (hw d (List.mem_cons_self ..)) hk
        obtain ⟨rows, g5, g6, g7⟩ := ih ds (by simpa using hd) (fun d hd => hw d (List.mem_cons_of_mem _ hd)) (fun i l d hl hdd => h (i + 1) l d (by simpa using hl) (by simpa using hdd))
        refine ⟨xs :: rows, by simp [g5], by simp [g1, g6], fun i r hr => ?_⟩
        cases i with
        | zero => simp at hr; subst hr; exact ⟨⟨c, by simp [g1], g2⟩, g4, g3⟩
        | succ i =>
          obtain ⟨⟨c', a1, a2⟩, a3, a5⟩ := g7 i r (by simpa using hr)
          exact ⟨⟨c', by simpa [g1] using a1, a2⟩, a3, a5⟩
  have hw' : ∀ d ∈ ds, ∀ n ∈ d.weights P t', n ≤ W := by
    intro d' hd'
    rcases h4 with h4 | ⟨rest, h4⟩
    · subst h4; simp at hd'
    · subst h4; exact wt_el ht hw hd'
  obtain ⟨rows, g1, g2, g3⟩ := key ls ds h3 hw' (fun i l d hl hd => (h5 i l d hl hd).2)
  rw [g1] at h2
  refine ⟨v, rows, h1, ⟨ls.flatten, h2, fun i r hr => ?_⟩, ?_, fun r hr => ?_⟩
  · obtain ⟨⟨c, a1, a2⟩, _⟩ := g3 i r hr
    exact ⟨c, a1, by rw [flatMap_one]; exact a2⟩
  · rcases h4 with h4 | ⟨rest, h4⟩
    · subst h4; simp only [List.length_nil] at h3; rw [← g1, ← h3, Nat.zero_mul]; exact Nat.zero_le _
    · subst h4; rw [← g1, ← h3]; exact wt_len ht hw
  · obtain ⟨i, hi⟩ := List.mem_iff_getElem?.1 hr
    obtain ⟨_, a3, a5⟩ := g3 i r hi
    exact ⟨a5, a3⟩

end
end Go.Vam

namespace Go.Proofs.Ytkfcejhebepdkaa
open Go Go.Vam

set_option maxRecDepth 100000 in
theorem frame_w {T : Type} {s : Mm} (hs : Lt s) {v : Value} {d : DataW T} (h : AbsV Try.prog s 42 v d) {W : Nat} (hw : ∀ n ∈ d.weights Try.prog 42, n ≤ W) :
    ∃ T U rv iv re im, v = .agg #[.float .f64 T, .float .f64 U, rv, iv] ∧ TabC s rv re ∧ TabC s iv im ∧ re.length * 24 ≤ W ∧ im.length * 24 ≤ W ∧ T < 18446744073709551616 ∧ U < 18446744073709551616 ∧
      (∀ r ∈ re, r.length * 2 ≤ W) ∧ (∀ r ∈ im, r.length * 2 ≤ W) := by
  unfold AbsV at h
  rw [Try.underlying42] at h
  obtain ⟨cs, rfl, h⟩ := h
  obtain ⟨ds, rfl, hc, hd, hel⟩ := h.st Try.underlying42
  have h4 : Try.prog.cellsOf 42 = 4 := by decide +kernel
  have h1 : Try.prog.cellsOf 39 = 1 := by decide +kernel
  have h1' : Try.prog.cellsOf 40 = 1 := by decide +kernel
  have h67 : Try.prog.cellsOf 67 = 1 := by decide +kernel
  have h68 : Try.prog.cellsOf 68 = 1 := by decide +kernel
  have b67 : Try.prog.bytesOf 67 = 24 := by decide +kernel
  have b68 : Try.prog.bytesOf 68 = 2 := by decide +kernel
  rw [h4] at hc
  obtain ⟨l⟩ := cs
  simp only at hc hel
  match l, hc with
  | [a, b, c, e], _ =>
    match ds, hd with
    | [d0, d1, d2, d3], _ =>
      have e0 := hel 0 _ d0 rfl rfl
      have e1 := hel 1 _ d1 rfl rfl
      have e2 := hel 2 _ d2 rfl rfl
      have e3 := hel 3 _ d3 rfl rfl
      simp only [h1, h1'] at e0 e1 e2 e3
      have wfl : ∀ x : Nat, (Lit.float .f64 x).wf = true → x < 18446744073709551616 := fun x hx => by
        simpa [Lit.wf] using hx
      have hk : ∀ (l : List Value) (d : DataW T), Abs Try.prog s 68 l d → ∃ x, l = [Value.int .i16 x] ∧ True := fun l d h => by
        obtain ⟨n, g1, _, g2⟩ := Abs.i Try.underlying68 h
        exact ⟨n, g1, trivial⟩
      have w2 : ∀ n ∈ d2.weights Try.prog 40, n ≤ W := fun n hn => hw n (by simp only [DataW.weights, Try.underlying42]; exact DataW.weights_mem_each (j := 2) rfl rfl n hn)
      have w3 : ∀ n ∈ d3.weights Try.prog 40, n ≤ W := fun n hn => hw n (by simp only [DataW.weights, Try.underlying42]; exact DataW.weights_mem_each (j := 3) rfl rfl n hn)
      obtain ⟨T, g0, _, w0⟩ := Abs.f Try.underlying39 e0
      obtain ⟨U, g1, _, w1⟩ := Abs.f Try.underlying39 e1
      obtain ⟨rv, re, g2, r1, r2, r3⟩ := Abs.tabW hs Try.underlying40 Try.underlying67 h67 h68 e2 w2 hk
      obtain ⟨iv, im, g3, i1, i2, i3⟩ := Abs.tabW hs Try.underlying40 Try.underlying67 h67 h68 e3 w3 hk
      simp only [List.drop_zero, List.drop_succ_cons, List.take_succ_cons, List.take_zero, List.cons.injEq, and_true] at g0 g1 g2 g3
      subst g0 g1 g2 g3
      rw [b67] at r2 i2
      rw [b68] at r3 i3
      exact ⟨T, U, _, _, re, im, rfl, TabE.tabC r1, TabE.tabC i1, r2, i2, wfl _ w0, wfl _ w1, fun r hr => (r3 r hr).1, fun r hr => (i3 r hr).1⟩

end Go.Proofs.Ytkfcejhebepdkaa

/- TapeRows: its run at any arguments within the reach. -/
namespace Go.Proofs.Ytkfcejhebepdkaa
open Go Go.Vam

set_option maxRecDepth 100000 in
theorem runTapeRows {T : Type} {s : Mm} {avs : List Value} {ds : List (DataW T)} (hs : Lt s) (h : AbsL Try.prog s [42] avs ds) (hk : (DataW.weightsEach Try.prog [42] ds).all (· ≤ reachBytes) = true) : CallP ⟨orcW 9, fnsOf Try.prog⟩ 6 avs s (fun v _ => v = .bool true) := by
  obtain ⟨v0, vs, d0, ds, rfl, rfl, h0, h⟩ := AbsL.cons h
  obtain ⟨rfl, rfl⟩ := AbsL.nil h
  have hw : ∀ n ∈ d0.weights Try.prog 42, n ≤ 140737488351232 := fun n hn => of_decide_eq_true (List.all_eq_true.1 hk n (DataW.weights_mem_each (j := 0) rfl rfl n hn))
  obtain ⟨T, U, rv, iv, re, im, rfl, hr, hi, l1, l2, hT, hU, l3, l4⟩ := frame_w hs h0 hw
  exact run6 (X := ⟨orcW 9, fnsOf Try.prog⟩) rfl (fun f args hf => orcW_other hf args) (orcW_self 9) hr hi (by omega) (by omega) (fun r hr => by have := l3 r hr; omega) (fun r hr => by have := l4 r hr; omega) hT hU

end Go.Proofs.Ytkfcejhebepdkaa
