/- Peaks: the questions of sameness, and the document's beats and Next. -/
import Derived.Test.YtpphomoijlilfaaPB
import Derived.Test.YtpphomoijlilfaaPkBIr
import Derived.Test.YtpphomoijlilfaaWpC
namespace Go.Proofs.Ytpphomoijlilfaa
open Go Go.Vam

def dA (x y : Spot) : Nat := if x.1 < y.1 then y.1 - x.1 else x.1 - y.1
def nextR (x y : Spot) (B : Nat) : Bool := !(decide (eN x y < -1) || (decide (1 < eN x y) || (decide (dA x y = 0) && decide (eN x y = 0)))) && (decide (dA x y < 2) || decide (dA x y = B - 1))
def beatsR (x y : Spot) : Bool := (ford .f64 x.2.2 y.2.2 == some .gt) || ((ford .f64 x.2.2 y.2.2 == some .eq) && aheadB x y)

theorem load_all {s : Mm} {B n : Nat} {cs : List Value} {p : Bool} (hg : Store.get s.h B = some (.cells cs p)) (hn : cs.length = n) : loadV s (some n) (.pointer (some ⟨B, 0, none⟩)) = some (.agg cs.toArray) := by
  have hb : blk s B = some cs := by unfold blk; rw [hg]
  rw [load_n, hb, Option.bind_some, if_pos (by omega), List.drop_zero, ← hn, List.take_length]

def notNan (x : Nat) : Bool := ford .f64 x x == some .eq

theorem notNan_known {x : Nat} (h : notNan x = true) : fknown .f64 x = true := by
  unfold fknown
  rw [bne_iff_ne]
  intro e
  subst e
  exact absurd h (by decide +kernel)

theorem bits_nn {x : Nat} (h : notNan x = true) : extV 0 [.float .f64 x] = some (.int .u64 (x : Nat)) := by
  simp only [extV, notNan_known h, if_true]


theorem run53 {X : Ctx} (hX : X.fns = fnsOf Try.prog) (ho : ∀ f args, f ≠ 15 → X.orc f args = none) {s : Mm} {x y : Spot} : CallP X 53 [sV x, sV y] s (fun r s' => r = .bool (aheadB x y) ∧ Same s s' (fun _ => False)) := by
  have hbx : ∀ x : Spot, (sV x).cells.toList = [.int .i64 (x.1 : Nat), .int .i64 (x.2.1 : Nat), .float .f64 x.2.2] := fun _ => rfl
  refine CallP_of (hX ▸ ir53_eq) (ho _ _ (by decide)) (Nat.le_of_ble_eq_true rfl) ?_
  refine W_seq (W_ops [2, 3] ?_)
  simp only [o53_0, WO_box, nxt_new, WO_move, WO_nil, geT_put, frame_nil, frame_cons, evO_tmp, evO_const, keep_nil, keep_cons, keepK_eq, Nat.reduceEqDiff, Nat.reduceAdd, ↓reduceIte, eq_self, Nat.zero_add, hbx]
  intro fr e2 e3
  refine SeqK_n ?_
  have H := ((Hold.refl s).new [.int .i64 (x.1 : Nat), .int .i64 (x.2.1 : Nat), .float .f64 x.2.2]).new [.int .i64 (y.1 : Nat), .int .i64 (y.2.1 : Nat), .float .f64 y.2.2]
  have hx : (newAt s (.cells [.int .i64 (x.1 : Nat), .int .i64 (x.2.1 : Nat), .float .f64 x.2.2] false)).nxt = s.nxt + 1 := rfl
  rw [hx] at H
  generalize newAt (newAt s (.cells [.int .i64 (x.1 : Nat), .int .i64 (x.2.1 : Nat), .float .f64 x.2.2] false)) (.cells [.int .i64 (y.1 : Nat), .int .i64 (y.2.1 : Nat), .float .f64 y.2.2] false) = s1 at H ⊢
  have cy := H.cell (List.mem_cons_self ..)
  have cx := H.cell (List.mem_cons_of_mem _ (List.mem_cons_self ..))
  have x0 := load_g (o := 0) cx
  have x1 := load_g (o := 1) cx
  have y0 := load_g (o := 0) cy
  have y1 := load_g (o := 1) cy
  simp only [List.getElem?_cons_zero, List.getElem?_cons_succ] at x0 x1 y0 y1
  have d1 : decide (((x.1 : Nat) : Int) < (y.1 : Nat)) = decide (x.1 < y.1) := decide_eq_decide.2 (by omega)
  have d2 : decide (((x.1 : Nat) : Int) = (y.1 : Nat)) = decide (x.1 = y.1) := decide_eq_decide.2 (by omega)
  have d3 : decide (((x.2.1 : Nat) : Int) < (y.2.1 : Nat)) = decide (x.2.1 < y.2.1) := decide_eq_decide.2 (by omega)
  cases h1 : decide (x.1 < y.1) with
  | true =>
    refine W_seq (W_ops [4] ?_)
    simp only [o53_1, WO_bin, WO_fieldAddr, fieldAddr_p, WO_load, WO_move, WO_pick, pick_b, bin_lss, WO_nil, PureK_some, WO_guard, want_v, wantB_f, geT_put, evO_tmp, evO_const, keep_nil, keep_cons, keepK_eq, Nat.reduceEqDiff, ↓reduceIte, Bool.not_true, eq_self, Bool.false_eq_true, Nat.zero_add, Nat.add_zero, e2, e3, x0, y0, d1, h1]
    clear e2 e3
    intro fr e4
    refine SeqK_n ?_
    exact W_ret (Ret1 e4 ⟨by rw [aheadB, h1, Bool.true_or], H.same⟩)
  | false =>
    cases h2 : decide (x.1 = y.1) with
    | false =>
      refine W_seq (W_ops [4] ?_)
      simp only [o53_1, WO_bin, WO_fieldAddr, fieldAddr_p, WO_load, WO_move, WO_pick, pick_b, bin_eql, bin_lss, WO_nil, PureK_some, WO_guard, want_v, wantB_t, wantB_f, geT_put, evO_tmp, evO_const, keep_nil, keep_cons, keepK_eq, Nat.reduceEqDiff, ↓reduceIte, Bool.not_false, eq_self, Bool.false_eq_true, Nat.add_zero, e2, e3, x0, y0, d1, h1, d2, h2]
      clear e2 e3
      intro fr e4
      refine SeqK_n ?_
      exact W_ret (Ret1 e4 ⟨by rw [aheadB, h1, h2]; rfl, H.same⟩)
    | true =>
      refine W_seq (W_ops [4] ?_)
      simp only [o53_1, WO_bin, WO_fieldAddr, fieldAddr_p, WO_load, WO_move, WO_pick, pick_b, bin_eql, bin_lss, WO_nil, PureK_some, WO_guard, want_v, wantB_t, wantB_f, geT_put, evO_tmp, evO_const, keep_nil, keep_cons, keepK_eq, Nat.reduceEqDiff, ↓reduceIte, Bool.not_false, eq_self, Bool.false_eq_true, Nat.zero_add, Nat.add_zero, e2, e3, x0, y0, d1, h1, d2, h2, x1, y1, d3]
      clear e2 e3
      intro fr e4
      refine SeqK_n ?_
      exact W_ret (Ret1 e4 ⟨by rw [aheadB, h1, h2]; simp, H.same⟩)

theorem run34 {X : Ctx} (hX : X.fns = fnsOf Try.prog) (ho : ∀ f args, f ≠ 15 → X.orc f args = none) {s : Mm} {x y : Spot} : CallP X 34 [sV x, sV y] s (fun r s' => r = .bool (beatsR x y) ∧ Same s s' (fun _ => False)) := by
  have hbx : ∀ x : Spot, (sV x).cells.toList = [.int .i64 (x.1 : Nat), .int .i64 (x.2.1 : Nat), .float .f64 x.2.2] := fun _ => rfl
  refine CallP_of (hX ▸ ir34_eq) (ho _ _ (by decide)) (Nat.le_of_ble_eq_true rfl) ?_
  refine W_seq (W_ops [2, 3] ?_)
  simp only [o34_0, WO_box, nxt_new, WO_move, WO_nil, geT_put, frame_nil, frame_cons, evO_tmp, evO_const, keep_nil, keep_cons, keepK_eq, Nat.reduceEqDiff, Nat.reduceAdd, ↓reduceIte, eq_self, Nat.zero_add, hbx]
  intro fr e2 e3
  refine SeqK_n ?_
  have H := ((Hold.refl s).new [.int .i64 (x.1 : Nat), .int .i64 (x.2.1 : Nat), .float .f64 x.2.2]).new [.int .i64 (y.1 : Nat), .int .i64 (y.2.1 : Nat), .float .f64 y.2.2]
  have hx : (newAt s (.cells [.int .i64 (x.1 : Nat), .int .i64 (x.2.1 : Nat), .float .f64 x.2.2] false)).nxt = s.nxt + 1 := rfl
  rw [hx] at H
  generalize newAt (newAt s (.cells [.int .i64 (x.1 : Nat), .int .i64 (x.2.1 : Nat), .float .f64 x.2.2] false)) (.cells [.int .i64 (y.1 : Nat), .int .i64 (y.2.1 : Nat), .float .f64 y.2.2] false) = s1 at H ⊢
  have cy := H.cell (List.mem_cons_self ..)
  have cx := H.cell (List.mem_cons_of_mem _ (List.mem_cons_self ..))
  have x2 := load_g (o := 2) cx
  have y2 := load_g (o := 2) cy
  have xa : loadV s1 (some 3) (.pointer (some ⟨s.nxt, 0, none⟩)) = some (sV x) := load_all cx rfl
  have ya : loadV s1 (some 3) (.pointer (some ⟨s.nxt + 1, 0, none⟩)) = some (sV y) := load_all cy rfl
  simp only [List.getElem?_cons_zero, List.getElem?_cons_succ] at x2 y2
  cases h1 : ford .f64 x.2.2 y.2.2 == some .gt with
  | true =>
    refine W_seq (W_ops [4] ?_)
    simp only [o34_1, WO_bin, WO_call, WO_fieldAddr, fieldAddr_p, WO_load, WO_move, WO_pick, pick_b, binf_gtr, WO_nil, PureK_some, WO_guard, want_v, wantB_f, geT_put, evO_tmp, evO_const, keep_nil, keep_cons, keepK_eq, List.map_cons, List.map_nil, Nat.reduceEqDiff, ↓reduceIte, Bool.not_true, eq_self, Bool.false_eq_true, Nat.zero_add, e2, e3, x2, y2, h1]
    clear e2 e3
    intro fr e4
    refine SeqK_n ?_
    exact W_ret (Ret1 e4 ⟨by rw [beatsR, h1, Bool.true_or], H.same⟩)
  | false =>
    cases h2 : ford .f64 x.2.2 y.2.2 == some .eq with
    | false =>
      refine W_seq (W_ops [4] ?_)
      simp only [o34_1, WO_bin, WO_fieldAddr, fieldAddr_p, WO_load, WO_move, WO_pick, pick_b, binf_eql, binf_gtr, WO_nil, PureK_some, WO_guard, want_v, wantB_t, wantB_f, geT_put, evO_tmp, evO_const, keep_nil, keep_cons, keepK_eq, Nat.reduceEqDiff, ↓reduceIte, Bool.not_false, eq_self, Bool.false_eq_true, Nat.zero_add, e2, e3, x2, y2, h1, h2]
      clear e2 e3
      intro fr e4
      refine SeqK_n ?_
      exact W_ret (Ret1 e4 ⟨by rw [beatsR, h1, h2]; rfl, H.same⟩)
    | true =>
      refine W_seq (W_ops [4] ?_)
      simp only [o34_1, WO_bin, WO_call, WO_fieldAddr, fieldAddr_p, WO_load, WO_move, binf_eql, binf_gtr, PureK_some, WO_guard, want_v, wantB_t, wantB_f, geT_put, evO_tmp, List.map_cons, List.map_nil, Nat.reduceEqDiff, ↓reduceIte, Bool.not_false, eq_self, Nat.zero_add, e2, e3, x2, y2, h1, h2, xa, ya]
      refine CallK_of (run53 hX ho) ?_
      rintro _ s2 ⟨rfl, hs2⟩
      simp only [WO_move, WO_pick, pick_b, WO_nil, PureK_some, WO_guard, want_v, wantB_f, geT_put, evO_tmp, evO_const, keep_nil, keep_cons, keepK_eq, Nat.reduceEqDiff, ↓reduceIte, Bool.not_false, eq_self, Bool.false_eq_true]
      clear e2 e3
      intro fr e4
      refine SeqK_n ?_
      exact W_ret (Ret1 e4 ⟨by rw [beatsR, h1, h2]; simp, (H.keep hs2).same⟩)

set_option maxHeartbeats 1000000 in
theorem run33 {X : Ctx} (hX : X.fns = fnsOf Try.prog) (ho : ∀ f args, f ≠ 15 → X.orc f args = none) {s : Mm} {x y : Spot} {B : Nat} (hx : x.1 < B) (hy : y.1 < B) (hB : B ≤ 1099511627776) (gx : x.2.1 ≤ 1099511627776) (gy : y.2.1 ≤ 1099511627776) :
    CallP X 33 [.int .i64 (B : Nat), sV x, sV y] s (fun r s' => r = .bool (nextR x y B) ∧ Same s s' (fun _ => False)) := by
  have hbx : ∀ x : Spot, (sV x).cells.toList = [.int .i64 (x.1 : Nat), .int .i64 (x.2.1 : Nat), .float .f64 x.2.2] := fun _ => rfl
  refine CallP_of (hX ▸ ir33_eq) (ho _ _ (by decide)) (Nat.le_of_ble_eq_true rfl) ?_
  refine W_seq (W_ops [0, 4, 5] ?_)
  simp only [o33_0, WO_box, nxt_new, WO_move, WO_nil, geT_put, frame_nil, frame_cons, evO_tmp, evO_const, keep_nil, keep_cons, keepK_eq, Nat.reduceEqDiff, Nat.reduceAdd, ↓reduceIte, eq_self, Nat.zero_add, hbx]
  intro fr e0 e4 e5
  refine SeqK_n ?_
  have H := ((Hold.refl s).new [.int .i64 (x.1 : Nat), .int .i64 (x.2.1 : Nat), .float .f64 x.2.2]).new [.int .i64 (y.1 : Nat), .int .i64 (y.2.1 : Nat), .float .f64 y.2.2]
  have hxx : (newAt s (.cells [.int .i64 (x.1 : Nat), .int .i64 (x.2.1 : Nat), .float .f64 x.2.2] false)).nxt = s.nxt + 1 := rfl
  rw [hxx] at H
  generalize newAt (newAt s (.cells [.int .i64 (x.1 : Nat), .int .i64 (x.2.1 : Nat), .float .f64 x.2.2] false)) (.cells [.int .i64 (y.1 : Nat), .int .i64 (y.2.1 : Nat), .float .f64 y.2.2] false) = s1 at H ⊢
  have cy := H.cell (List.mem_cons_self ..)
  have cx := H.cell (List.mem_cons_of_mem _ (List.mem_cons_self ..))
  have x0 := load_g (o := 0) cx
  have x1 := load_g (o := 1) cx
  have y0 := load_g (o := 0) cy
  have y1 := load_g (o := 1) cy
  simp only [List.getElem?_cons_zero, List.getElem?_cons_succ] at x0 x1 y0 y1
  refine W_seq (W_ops [0, 4, 5, 7] ?_)
  simp only [o33_1, WO_bin, WO_fieldAddr, fieldAddr_p, WO_load, WO_move, bin_sub, WO_nil, PureK_some, geT_put, evO_tmp, keep_nil, keep_cons, keepK_eq, Nat.reduceEqDiff, ↓reduceIte, eq_self, Nat.add_zero, e0, e4, e5, x0, y0, wrap_i64 (n := (x.1 : Int) - (y.1 : Nat)) (by omega) (by omega)]
  clear e0 e4 e5
  intro fr e0 e4 e5 e7
  refine SeqK_n ?_
  refine W_seq (W_ops [0, 7, 8] ?_)
  simp only [o33_2, WO_bin, WO_fieldAddr, fieldAddr_p, WO_load, WO_move, bin_sub, WO_nil, PureK_some, geT_put, evO_tmp, keep_nil, keep_cons, keepK_eq, Nat.reduceEqDiff, ↓reduceIte, eq_self, Nat.zero_add, e0, e4, e5, e7, x1, y1, wrap_i64 (n := (x.2.1 : Int) - (y.2.1 : Nat)) (by omega) (by omega)]
  clear e0 e4 e5 e7
  intro fr e0 e7 e8
  refine SeqK_n ?_
  have heN : (x.2.1 : Int) - (y.2.1 : Nat) = eN x y := rfl
  rw [heN] at e8
  refine W_seq (W.mono (Q := fun e fr1 s6 => e = .normal ∧ s1 = s6 ∧ geT fr1 0 = .int .i64 (B : Nat) ∧ geT fr1 7 = .int .i64 (dA x y : Nat) ∧ geT fr1 8 = .int .i64 (eN x y)) ?_ ?_)
  · refine W_seq (W_ops [0, 7, 8, 20] ?_)
    simp only [o33_3, WO_bin, WO_move, bin_lss, WO_nil, PureK_some, geT_put, evO_tmp, evO_const, keep_nil, keep_cons, keepK_eq, Nat.reduceEqDiff, ↓reduceIte, eq_self, e0, e7, e8]
    clear e0 e7 e8
    intro fr e0 e7 e8 e20
    refine SeqK_n ?_
    by_cases h : x.1 < y.1
    · have hd : dA x y = y.1 - x.1 := if_pos h
      have hn : decide ((x.1 : Int) - (y.1 : Nat) < 0) = true := decide_eq_true (by omega)
      rw [hn] at e20
      refine W_cond e20 (fun _ => ?_) (fun h => by cases h)
      refine W_ops [0, 7, 8] ?_
      simp only [o33_4, WO_move, WO_un, un_neg, WO_nil, PureK_some, geT_put, evO_tmp, keep_nil, keep_cons, keepK_eq, Nat.reduceEqDiff, ↓reduceIte, eq_self, true_and, e0, e7, e8, wrap_i64 (n := 0 - ((x.1 : Int) - (y.1 : Nat))) (by omega) (by omega)]
      clear e0 e7 e8 e20
      intro fr e0 e7 e8
      have e7' : geT fr 7 = .int .i64 (dA x y : Nat) := by rw [e7, hd]; congr 1; omega
      first | exact ⟨rfl, rfl, e0, e7', e8⟩ | exact ⟨e0, e7', e8⟩
    · have hd : dA x y = x.1 - y.1 := if_neg h
      have hn : decide ((x.1 : Int) - (y.1 : Nat) < 0) = false := decide_eq_false (by omega)
      rw [hn] at e20
      refine W_cond e20 (fun h => by cases h) (fun _ => W_skip ?_)
      have e7' : geT fr 7 = .int .i64 (dA x y : Nat) := by rw [e7, hd]; congr 1; omega
      first | exact ⟨rfl, rfl, e0, e7', e8⟩ | exact ⟨e0, e7', e8⟩
  clear e0 e7 e8 fr
  rintro _ fr _ ⟨rfl, rfl, e0, e7, e8⟩
  have n1 : decide ((dA x y : Int) < 2) = decide (dA x y < 2) := decide_eq_decide.2 (by omega)
  have n2 : decide ((dA x y : Int) = (B : Nat) - 1) = decide (dA x y = B - 1) := decide_eq_decide.2 (by omega)
  have n3 : decide ((dA x y : Int) = 0) = decide (dA x y = 0) := decide_eq_decide.2 (by omega)
  obtain ⟨q, hq⟩ : ∃ q, q = (decide (eN x y < -1) || (decide (1 < eN x y) || (decide (dA x y = 0) && decide (eN x y = 0)))) := ⟨_, rfl⟩
  refine SeqK_n (W_assoc ?_)
  refine W_seq (W_opsB [0, 7, 36] (fun fr1 s6 => s1 = s6 ∧ geT fr1 0 = .int .i64 (B : Nat) ∧ geT fr1 7 = .int .i64 (dA x y : Nat) ∧ geT fr1 36 = .bool q) ?_ ?_)
  · intro R' hR'
    cases h1 : decide (eN x y < -1) with
    | true =>
      simp only [o33_5, WO_nil, WO_move, WO_pick, WO_bin, WO_guard, PureK_some, geT_put, evO_tmp, evO_const, want_v, wantB_f, keep_nil, keep_cons, keepK_eq, Nat.reduceEqDiff, ↓reduceIte, pick_b, bin_eql, bin_lss, Bool.not_true, eq_self, Bool.false_eq_true, e0, e7, e8, h1]
      intro fr e0 e7 e36
      exact hR' _ _ ⟨rfl, e0, e7, by rw [e36, hq, h1, Bool.true_or]⟩
    | false =>
      cases h2 : decide (1 < eN x y) with
      | true =>
        simp only [o33_5, WO_nil, WO_move, WO_pick, WO_bin, WO_guard, PureK_some, geT_put, evO_tmp, evO_const, want_v, wantB_f, keep_nil, keep_cons, keepK_eq, Nat.reduceEqDiff, ↓reduceIte, pick_b, bin_eql, bin_lss, bin_gtr, Bool.not_true, Bool.not_false, eq_self, Bool.false_eq_true, e0, e7, e8, h1, h2]
        intro fr e0 e7 e36
        exact hR' _ _ ⟨rfl, e0, e7, by rw [e36, hq, h1, h2]; rfl⟩
      | false =>
        cases h3 : decide (dA x y = 0) with
        | true =>
          simp only [o33_5, WO_nil, WO_move, WO_pick, WO_bin, WO_guard, PureK_some, geT_put, evO_tmp, evO_const, want_v, wantB_t, wantB_f, keep_nil, keep_cons, keepK_eq, Nat.reduceEqDiff, ↓reduceIte, pick_b, bin_eql, bin_lss, bin_gtr, Bool.not_false, eq_self, Bool.false_eq_true, e0, e7, e8, h1, h2, n3, h3]
          intro fr e0 e7 e36
          exact hR' _ _ ⟨rfl, e0, e7, by rw [e36, hq, h1, h2, h3]; simp⟩
        | false =>
          simp only [o33_5, WO_nil, WO_move, WO_pick, WO_bin, WO_guard, PureK_some, geT_put, evO_tmp, evO_const, want_v, wantB_t, wantB_f, keep_nil, keep_cons, keepK_eq, Nat.reduceEqDiff, ↓reduceIte, pick_b, bin_eql, bin_lss, bin_gtr, Bool.not_false, eq_self, Bool.false_eq_true, e0, e7, e8, h1, h2, n3, h3]
          intro fr e0 e7 e36
          exact hR' _ _ ⟨rfl, e0, e7, by rw [e36, hq, h1, h2, h3]; rfl⟩
  clear e0 e7 e8 fr
  rintro fr _ ⟨rfl, e0, e7, e36⟩
  refine SeqK_n ?_
  cases q with
  | true =>
    refine W_seq (W_cond e36 (fun _ => ?_) (fun h => by cases h))
    refine W_seq (W_ops [6] ?_)
    simp only [o33_6, WO_move, WO_nil, geT_put, evO_const, keep_nil, keep_cons, keepK_eq, ↓reduceIte, eq_self]
    clear e0 e7 e36
    intro fr e6
    refine SeqK_n ?_
    refine W_ret (SeqK_r (Ret1 e6 ⟨?_, H.same⟩))
    rw [nextR, ← hq]; rfl
  | false =>
    refine W_seq (W_cond e36 (fun h => by cases h) (fun _ => W_skip (SeqK_n ?_)))
    cases h1 : decide (dA x y < 2) with
    | true =>
      refine W_seq (W_ops [6] ?_)
      simp only [o33_7, WO_bin, WO_move, WO_pick, pick_b, bin_lss, WO_nil, PureK_some, WO_guard, want_v, wantB_f, geT_put, evO_tmp, evO_const, keep_nil, keep_cons, keepK_eq, Nat.reduceEqDiff, ↓reduceIte, Bool.not_true, eq_self, Bool.false_eq_true, e7, n1, h1]
      clear e0 e7 e36
      intro fr e6
      refine SeqK_n ?_
      refine W_ret (Ret1 e6 ⟨?_, H.same⟩)
      rw [nextR, ← hq, h1]; rfl
    | false =>
      refine W_seq (W_ops [6] ?_)
      simp only [o33_7, WO_bin, WO_move, WO_pick, pick_b, bin_eql, bin_lss, bin_sub, WO_nil, PureK_some, WO_guard, want_v, wantB_f, geT_put, evO_tmp, evO_const, keep_nil, keep_cons, keepK_eq, Nat.reduceEqDiff, ↓reduceIte, Bool.not_false, eq_self, Bool.false_eq_true, e0, e7, n1, h1, wrap_i64 (n := (B : Int) - 1) (by omega) (by omega), n2]
      clear e0 e7 e36
      intro fr e6
      refine SeqK_n ?_
      refine W_ret (Ret1 e6 ⟨?_, H.same⟩)
      rw [nextR, ← hq, h1]; rfl

theorem run22 {X : Ctx} (hX : X.fns = fnsOf Try.prog) (ho : ∀ f args, f ≠ 15 → X.orc f args = none) {s : Mm} {x : Nat} : CallP X 22 [.float .f64 x, .float .f64 x] s (fun r s' => r = .bool true ∧ s = s') := by
  have hq : (ford .f64 x x == some .eq) = notNan x := rfl
  refine CallP_of (hX ▸ ir22_eq) (ho _ _ (by decide)) (Nat.le_of_ble_eq_true rfl) ?_
  refine W_seq (W_ops [0, 1] ?_)
  simp only [o22_0, WO_move, WO_nil, geT_put, frame_nil, frame_cons, evO_const, keep_nil, keep_cons, keepK_eq, Nat.reduceEqDiff, Nat.reduceAdd, ↓reduceIte, eq_self, Nat.zero_add]
  intro fr e0 e1
  refine SeqK_n ?_
  refine W_assoc ?_
  cases h : notNan x with
  | true =>
    refine W_seq (W_ops [0, 1, 12] ?_)
    simp only [o22_1, WO_bin, WO_move, WO_pick, pick_b, binf_neq, WO_nil, PureK_some, WO_guard, want_v, wantB_f, geT_put, evO_tmp, evO_const, keep_nil, keep_cons, keepK_eq, Nat.reduceEqDiff, ↓reduceIte, Bool.not_true, Bool.not_false, eq_self, Bool.false_eq_true, e0, e1, hq, h]
    clear e0 e1
    intro fr e0 e1 e12
    refine SeqK_n ?_
    refine W_seq (W_cond e12 (fun h => by cases h) (fun _ => W_skip (SeqK_n ?_)))
    refine W_seq (W_ops [4] ?_)
    simp only [o22_3, WO_bin, WO_ext, WO_move, bin_eql, WO_nil, PureK_some, geT_put, evO_tmp, keep_nil, keep_cons, keepK_eq, List.map_cons, List.map_nil, Nat.reduceEqDiff, ↓reduceIte, decide_true, eq_self, e0, e1, bits_nn h]
    clear e0 e1 e12
    intro fr e4
    refine SeqK_n ?_
    exact W_ret (Ret1 e4 ⟨rfl, rfl⟩)
  | false =>
    refine W_seq (W_ops [0, 1, 12] ?_)
    simp only [o22_1, WO_bin, WO_move, WO_pick, pick_b, binf_neq, WO_nil, PureK_some, WO_guard, want_v, wantB_f, geT_put, evO_tmp, evO_const, keep_nil, keep_cons, keepK_eq, Nat.reduceEqDiff, ↓reduceIte, Bool.not_true, Bool.not_false, eq_self, Bool.false_eq_true, e0, e1, hq, h]
    clear e0 e1
    intro fr e0 e1 e12
    refine SeqK_n ?_
    refine W_seq (W_cond e12 (fun _ => ?_) (fun h => by cases h))
    refine W_seq (W_ops [4] ?_)
    simp only [o22_2, WO_bin, WO_move, WO_pick, pick_b, binf_neq, WO_nil, PureK_some, WO_guard, want_v, wantB_t, geT_put, evO_tmp, evO_const, keep_nil, keep_cons, keepK_eq, Nat.reduceEqDiff, ↓reduceIte, Bool.not_false, eq_self, e0, e1, hq, h]
    clear e0 e1 e12
    intro fr e4
    refine SeqK_n ?_
    exact W_ret (SeqK_r (Ret1 e4 ⟨rfl, rfl⟩))

set_option maxHeartbeats 1000000 in
theorem run13 {X : Ctx} (hX : X.fns = fnsOf Try.prog) (ho : ∀ f args, f ≠ 15 → X.orc f args = none) {s : Mm} {v v' : Value} {L : List Spot} (a1 : SlC s 3 v L.length (L.flatMap eSp)) (a2 : SlC s 3 v' L.length (L.flatMap eSp)) (hl : L.length ≤ 4611686018427387904) :
    CallP X 13 [v, v'] s (fun r s' => r = .bool true ∧ s = s') := by
  refine CallP_of (hX ▸ ir13_eq) (ho _ _ (by decide)) (Nat.le_of_ble_eq_true rfl) ?_
  refine W_seq (W_ops [0, 1] ?_)
  simp only [o13_0, WO_move, WO_nil, geT_put, frame_nil, frame_cons, evO_const, keep_nil, keep_cons, keepK_eq, Nat.reduceEqDiff, Nat.reduceAdd, ↓reduceIte, eq_self, Nat.zero_add]
  intro fr e0 e1
  refine SeqK_n ?_
  refine W_assoc ?_
  refine W_seq (W_ops [0, 1, 10] ?_)
  simp only [o13_1, WO_bin, WO_bu, WO_move, bin_neq, WO_nil, PureK_some, geT_put, evO_tmp, keep_nil, keep_cons, keepK_eq, List.map_cons, List.map_nil, Nat.reduceEqDiff, ↓reduceIte, Bool.not_true, decide_true, eq_self, e0, e1, a1.len, a2.len]
  clear e0 e1
  intro fr e0 e1 e10
  refine SeqK_n ?_
  refine W_seq (W_cond e10 (fun h => by cases h) (fun _ => W_skip (SeqK_n ?_)))
  refine W_assoc ?_
  refine W_seq (W_ops [0, 1, 5] ?_)
  simp only [o13_3, WO_move, WO_nil, geT_put, evO_const, keep_nil, keep_cons, keepK_eq, Nat.reduceEqDiff, ↓reduceIte, eq_self, e0, e1]
  clear e0 e1 e10
  intro fr e0 e1 e5
  refine SeqK_n ?_
  refine W_seq (W_block (W_loop (fun m fr s1 => ∃ k, k + m = L.length ∧ s = s1 ∧ geT fr 0 = v ∧ geT fr 1 = v' ∧ geT fr 5 = .int .i64 (k : Nat)) L.length ⟨0, by omega, rfl, e0, e1, e5⟩ ?_))
  clear e0 e1 e5 fr
  rintro m fr _ ⟨k, hk, rfl, e0, e1, e5⟩
  refine W_assoc ?_
  refine W_seq (W_ops [0, 1, 5, 14] ?_)
  simp only [o13_5, WO_bin, WO_bu, WO_move, bin_lss, WO_nil, PureK_some, geT_put, evO_tmp, keep_nil, keep_cons, keepK_eq, List.map_cons, List.map_nil, Nat.reduceEqDiff, ↓reduceIte, eq_self, e0, e1, e5, a1.len]
  clear e0 e1 e5
  intro fr e0 e1 e5 e14
  refine SeqK_n ?_
  refine W_while e14 (fun hlt => ?_) (fun hlt => ?_)
  · have hk1 : k < L.length := by omega
    obtain ⟨f0, f1, f2, f3⟩ := flat3 hk1
    have q1 := a1.addr (kk := .i64) (i := (k : Int)) rfl hk1
    have q2 := a2.addr (kk := .i64) (i := (k : Int)) rfl hk1
    have p0 := a1.fld (by omega) (k * 3) 0
    have p1 := a1.fld (by omega) (k * 3) 1
    have p2 := a1.fld (by omega) (k * 3) 2
    have r0 := a2.fld (by omega) (k * 3) 0
    have r1 := a2.fld (by omega) (k * 3) 1
    have r2 := a2.fld (by omega) (k * 3) 2
    rw [Nat.add_zero] at p0 r0
    have l0 := a1.load f0
    have l1 := a1.load f1
    have l2 := a1.load f2
    have m0 := a2.load f0
    have m1 := a2.load f1
    have m2 := a2.load f2
    refine W_seq (W_block ?_)
    refine W_seq (W_draw0 [0, 1, 5, 54] rfl ?_)
    simp only [d13_6, WD_addrSl, WD_bin, WD_call, WD_fieldAddr, WD_load, WD_move, WD_pick, pick_b, bin_neq, want_v, wantB_f, DPureK_some, DReadK_some, pastR_nil, joinF_nil, setH_self, geT_put, evO_tmp, evO_const, List.map_cons, List.map_nil, Nat.reduceEqDiff, Nat.reduceAdd, ↓reduceIte, Bool.not_true, Bool.not_false, decide_true, eq_self, Bool.false_eq_true, true_and, Nat.zero_add, e0, e1, e5, WD_yes, q1, q2, p0, p1, p2, r0, r1, r2, l0, l1, l2, m0, m1, m2]
    refine DCallK_of rfl (run22 hX ho) ?_
    rintro _ _ ⟨rfl, rfl⟩
    simp only [WD_pick, pick_b, WD_un, un_not, want_v, wantB_f, WD_nil, DPureK_some, joinF_nil, joinAll_nil, setH_self, Nat.testBit, Nat.reduceShiftRight, Nat.reduceAnd, Nat.reduceBneDiff, List.all_nil, List.all_cons, List.filter_nil, List.filter_cons, geT_put, evO_tmp, evO_const, keep_nil, keep_cons, keepK_eq, Nat.reduceEqDiff, Nat.reduceAdd, ↓reduceIte, Bool.not_true, Bool.not_false, Bool.and_true, Bool.true_or, eq_self, Bool.false_eq_true, true_and, e0, e1, e5, WD_yes]
    clear e0 e1 e5 e14
    intro fr e0 e1 e5 e54
    refine SeqK_n ?_
    refine W_cond e54 (fun h => by cases h) (fun _ => W_skip (BlkK_n (SeqK_n ?_)))
    refine W_ops [0, 1, 5] ?_
    simp only [o13_8, WO_bin, WO_move, bin_add, WO_nil, PureK_some, geT_put, evO_tmp, evO_const, keep_nil, keep_cons, keepK_eq, Nat.reduceEqDiff, ↓reduceIte, eq_self, e0, e1, e5, wrap_i64 (n := (k : Int) + 1) (by omega) (by omega)]
    clear e0 e1 e5 e54
    intro fr e0 e1 e5
    exact LoopK_n (m' := m - 1) (by omega) ⟨k + 1, by omega, rfl, e0, e1, by rw [e5]; rfl⟩
  · refine LoopK_x (BlkK_e (SeqK_n ?_))
    refine W_seq (W_ops [4] ?_)
    simp only [o13_9, WO_move, WO_nil, geT_put, evO_const, keep_nil, keep_cons, keepK_eq, ↓reduceIte, eq_self]
    clear e0 e1 e5 e14
    intro fr e4
    refine SeqK_n ?_
    exact W_ret (Ret1 e4 ⟨rfl, rfl⟩)

theorem run35 {X : Ctx} (hX : X.fns = fnsOf Try.prog) (ho : ∀ f args, f ≠ 15 → X.orc f args = none) {s : Mm} {v v' : Value} {L : List Nat} (a1 : SlC s 1 v L.length (L.flatMap eF)) (a2 : SlC s 1 v' L.length (L.flatMap eF)) (hl : L.length ≤ 4611686018427387904) :
    CallP X 35 [v, v'] s (fun r s' => r = .bool true ∧ s = s') := by
  have hfm : L.flatMap eF = L.map (.float .f64) := flatMap_one (Value.float .f64) _
  refine CallP_of (hX ▸ ir35_eq) (ho _ _ (by decide)) (Nat.le_of_ble_eq_true rfl) ?_
  refine W_seq (W_ops [0, 1] ?_)
  simp only [o35_0, WO_move, WO_nil, geT_put, frame_nil, frame_cons, evO_const, keep_nil, keep_cons, keepK_eq, Nat.reduceEqDiff, Nat.reduceAdd, ↓reduceIte, eq_self, Nat.zero_add]
  intro fr e0 e1
  refine SeqK_n ?_
  refine W_assoc ?_
  refine W_seq (W_ops [0, 1, 11] ?_)
  simp only [o35_1, WO_bin, WO_bu, WO_move, bin_neq, WO_nil, PureK_some, geT_put, evO_tmp, keep_nil, keep_cons, keepK_eq, List.map_cons, List.map_nil, Nat.reduceEqDiff, ↓reduceIte, Bool.not_true, decide_true, eq_self, e0, e1, a1.len, a2.len]
  clear e0 e1
  intro fr e0 e1 e11
  refine SeqK_n ?_
  refine W_seq (W_cond e11 (fun h => by cases h) (fun _ => W_skip (SeqK_n ?_)))
  refine W_assoc ?_
  refine W_seq (W_ops [0, 1, 5] ?_)
  simp only [o35_3, WO_move, WO_nil, geT_put, evO_const, keep_nil, keep_cons, keepK_eq, Nat.reduceEqDiff, ↓reduceIte, eq_self, e0, e1]
  clear e0 e1 e11
  intro fr e0 e1 e5
  refine SeqK_n ?_
  refine W_seq (W_block (W_loop (fun m fr s1 => ∃ k, k + m = L.length ∧ s = s1 ∧ geT fr 0 = v ∧ geT fr 1 = v' ∧ geT fr 5 = .int .i64 (k : Nat)) L.length ⟨0, by omega, rfl, e0, e1, e5⟩ ?_))
  clear e0 e1 e5 fr
  rintro m fr _ ⟨k, hk, rfl, e0, e1, e5⟩
  refine W_assoc ?_
  refine W_seq (W_ops [0, 1, 5, 15] ?_)
  simp only [o35_5, WO_bin, WO_bu, WO_move, bin_lss, WO_nil, PureK_some, geT_put, evO_tmp, keep_nil, keep_cons, keepK_eq, List.map_cons, List.map_nil, Nat.reduceEqDiff, ↓reduceIte, eq_self, e0, e1, e5, a1.len]
  clear e0 e1 e5
  intro fr e0 e1 e5 e15
  refine SeqK_n ?_
  refine W_while e15 (fun hlt => ?_) (fun hlt => ?_)
  · have hk1 : k < L.length := by omega
    have q1 := a1.addr (kk := .i64) (i := (k : Int)) rfl hk1
    have q2 := a2.addr (kk := .i64) (i := (k : Int)) rfl hk1
    rw [Nat.mul_one] at q1 q2
    have l0 : loadV s none (elP v k) = some (.float .f64 L[k]) := a1.load (by rw [hfm]; simp [hk1])
    have m0 : loadV s none (elP v' k) = some (.float .f64 L[k]) := a2.load (by rw [hfm]; simp [hk1])
    refine W_seq (W_block ?_)
    refine W_seq (W_draw0 [0, 1, 5, 6] rfl ?_)
    simp only [d35_6, WD_addrSl, WD_call, WD_load, WD_move, DPureK_some, DReadK_some, pastR_nil, joinF_nil, setH_self, geT_put, evO_tmp, List.map_cons, List.map_nil, Nat.reduceEqDiff, Nat.reduceAdd, ↓reduceIte, eq_self, true_and, Nat.zero_add, e0, e1, e5, q1, q2, l0, m0]
    refine DCallK_of rfl (run22 hX ho) ?_
    rintro _ _ ⟨rfl, rfl⟩
    simp only [WD_move, WD_nil, DPureK_some, joinF_nil, joinAll_nil, setH_self, Nat.testBit, Nat.reduceShiftRight, Nat.reduceAnd, Nat.reduceBneDiff, List.all_nil, List.all_cons, List.filter_nil, List.filter_cons, geT_put, evO_tmp, keep_nil, keep_cons, keepK_eq, Nat.reduceEqDiff, Nat.reduceAdd, ↓reduceIte, Bool.not_true, Bool.and_true, Bool.true_or, eq_self, Bool.false_eq_true, true_and, e0, e1, e5]
    clear e0 e1 e5 e15
    intro fr e0 e1 e5 e6
    refine SeqK_n ?_
    refine W_seq (W_ops [0, 1, 5, 28] ?_)
    simp only [o35_7, WO_move, WO_un, un_not, WO_nil, PureK_some, geT_put, evO_tmp, keep_nil, keep_cons, keepK_eq, Nat.reduceEqDiff, ↓reduceIte, Bool.not_true, eq_self, e0, e1, e5, e6]
    clear e0 e1 e5 e6
    intro fr e0 e1 e5 e28
    refine SeqK_n ?_
    refine W_cond e28 (fun h => by cases h) (fun _ => W_skip (BlkK_n (SeqK_n ?_)))
    refine W_ops [0, 1, 5] ?_
    simp only [o35_9, WO_bin, WO_move, bin_add, WO_nil, PureK_some, geT_put, evO_tmp, evO_const, keep_nil, keep_cons, keepK_eq, Nat.reduceEqDiff, ↓reduceIte, eq_self, e0, e1, e5, wrap_i64 (n := (k : Int) + 1) (by omega) (by omega)]
    clear e0 e1 e5 e28
    intro fr e0 e1 e5
    exact LoopK_n (m' := m - 1) (by omega) ⟨k + 1, by omega, rfl, e0, e1, by rw [e5]; rfl⟩
  · refine LoopK_x (BlkK_e (SeqK_n ?_))
    refine W_seq (W_ops [4] ?_)
    simp only [o35_10, WO_move, WO_nil, geT_put, evO_const, keep_nil, keep_cons, keepK_eq, ↓reduceIte, eq_self]
    clear e0 e1 e5 e15
    intro fr e4
    refine SeqK_n ?_
    exact W_ret (Ret1 e4 ⟨rfl, rfl⟩)

theorem run14 {X : Ctx} (hX : X.fns = fnsOf Try.prog) (ho : ∀ f args, f ≠ 15 → X.orc f args = none) {s : Mm} {v v' : Value} {rows : List (List Nat)} (h1 : TabE s 1 eF v rows) (h2 : TabE s 1 eF v' rows) (hl : rows.length ≤ 4611686018427387904) (hn : ∀ r ∈ rows, r.length ≤ 4611686018427387904) :
    CallP X 14 [v, v'] s (fun r s' => r = .bool true ∧ s = s') := by
  refine CallP_of (hX ▸ ir14_eq) (ho _ _ (by decide)) (Nat.le_of_ble_eq_true rfl) ?_
  refine W_seq (W_ops [0, 1] ?_)
  simp only [o14_0, WO_move, WO_nil, geT_put, frame_nil, frame_cons, evO_const, keep_nil, keep_cons, keepK_eq, Nat.reduceEqDiff, Nat.reduceAdd, ↓reduceIte, eq_self, Nat.zero_add]
  intro fr e0 e1
  refine SeqK_n ?_
  refine W_assoc ?_
  refine W_seq (W_ops [0, 1, 11] ?_)
  simp only [o14_1, WO_bin, WO_bu, WO_move, bin_neq, WO_nil, PureK_some, geT_put, evO_tmp, keep_nil, keep_cons, keepK_eq, List.map_cons, List.map_nil, Nat.reduceEqDiff, ↓reduceIte, Bool.not_true, decide_true, eq_self, e0, e1, h1.len, h2.len]
  clear e0 e1
  intro fr e0 e1 e11
  refine SeqK_n ?_
  refine W_seq (W_cond e11 (fun h => by cases h) (fun _ => W_skip (SeqK_n ?_)))
  refine W_assoc ?_
  refine W_seq (W_ops [0, 1, 5] ?_)
  simp only [o14_3, WO_move, WO_nil, geT_put, evO_const, keep_nil, keep_cons, keepK_eq, Nat.reduceEqDiff, ↓reduceIte, eq_self, e0, e1]
  clear e0 e1 e11
  intro fr e0 e1 e5
  refine SeqK_n ?_
  refine W_seq (W_block (W_loop (fun m fr s1 => ∃ k, k + m = rows.length ∧ s = s1 ∧ geT fr 0 = v ∧ geT fr 1 = v' ∧ geT fr 5 = .int .i64 (k : Nat)) rows.length ⟨0, by omega, rfl, e0, e1, e5⟩ ?_))
  clear e0 e1 e5 fr
  rintro m fr _ ⟨k, hk, rfl, e0, e1, e5⟩
  refine W_assoc ?_
  refine W_seq (W_ops [0, 1, 5, 15] ?_)
  simp only [o14_5, WO_bin, WO_bu, WO_move, bin_lss, WO_nil, PureK_some, geT_put, evO_tmp, keep_nil, keep_cons, keepK_eq, List.map_cons, List.map_nil, Nat.reduceEqDiff, ↓reduceIte, eq_self, e0, e1, e5, h1.len]
  clear e0 e1 e5
  intro fr e0 e1 e5 e15
  refine SeqK_n ?_
  refine W_while e15 (fun hlt => ?_) (fun hlt => ?_)
  · have hk1 : k < rows.length := by omega
    obtain ⟨c, q1, l0, r1⟩ := h1.row hk1
    obtain ⟨c', q2, m0, r2⟩ := h2.row hk1
    refine W_seq (W_block ?_)
    refine W_seq (W_draw0 [0, 1, 5, 6] rfl ?_)
    simp only [d14_6, WD_addrSl, WD_call, WD_load, WD_move, DPureK_some, DReadK_some, pastR_nil, joinF_nil, setH_self, geT_put, evO_tmp, List.map_cons, List.map_nil, Nat.reduceEqDiff, Nat.reduceAdd, ↓reduceIte, eq_self, true_and, Nat.zero_add, e0, e1, e5, q1, q2, l0, m0]
    refine DCallK_of rfl (run35 hX ho r1 r2 (hn _ (List.getElem_mem hk1))) ?_
    rintro _ _ ⟨rfl, rfl⟩
    simp only [WD_move, WD_nil, DPureK_some, joinF_nil, joinAll_nil, setH_self, Nat.testBit, Nat.reduceShiftRight, Nat.reduceAnd, Nat.reduceBneDiff, List.all_nil, List.all_cons, List.filter_nil, List.filter_cons, geT_put, evO_tmp, keep_nil, keep_cons, keepK_eq, Nat.reduceEqDiff, Nat.reduceAdd, ↓reduceIte, Bool.not_true, Bool.and_true, Bool.true_or, eq_self, Bool.false_eq_true, true_and, e0, e1, e5]
    clear e0 e1 e5 e15
    intro fr e0 e1 e5 e6
    refine SeqK_n ?_
    refine W_seq (W_ops [0, 1, 5, 28] ?_)
    simp only [o14_7, WO_move, WO_un, un_not, WO_nil, PureK_some, geT_put, evO_tmp, keep_nil, keep_cons, keepK_eq, Nat.reduceEqDiff, ↓reduceIte, Bool.not_true, eq_self, e0, e1, e5, e6]
    clear e0 e1 e5 e6
    intro fr e0 e1 e5 e28
    refine SeqK_n ?_
    refine W_cond e28 (fun h => by cases h) (fun _ => W_skip (BlkK_n (SeqK_n ?_)))
    refine W_ops [0, 1, 5] ?_
    simp only [o14_9, WO_bin, WO_move, bin_add, WO_nil, PureK_some, geT_put, evO_tmp, evO_const, keep_nil, keep_cons, keepK_eq, Nat.reduceEqDiff, ↓reduceIte, eq_self, e0, e1, e5, wrap_i64 (n := (k : Int) + 1) (by omega) (by omega)]
    clear e0 e1 e5 e28
    intro fr e0 e1 e5
    exact LoopK_n (m' := m - 1) (by omega) ⟨k + 1, by omega, rfl, e0, e1, by rw [e5]; rfl⟩
  · refine LoopK_x (BlkK_e (SeqK_n ?_))
    refine W_seq (W_ops [4] ?_)
    simp only [o14_10, WO_move, WO_nil, geT_put, evO_const, keep_nil, keep_cons, keepK_eq, ↓reduceIte, eq_self]
    clear e0 e1 e5 e15
    intro fr e4
    refine SeqK_n ?_
    exact W_ret (Ret1 e4 ⟨rfl, rfl⟩)

end Go.Proofs.Ytpphomoijlilfaa

/- Peaks: the document's Highest. -/
namespace Go.Proofs.Ytpphomoijlilfaa
open Go Go.Vam

def arC (b B i : Nat) : Nat := (b + i + B - 1) % B
def arIn (G g k : Nat) : Bool := decide (1 ≤ g + k) && decide (g + k < G + 1)
def arRow (rows : List (List Nat)) (G b g i k : Nat) : List Spot := (List.range k).filterMap fun k' => if arIn G g k' = true then some (arC b rows.length i, g + k' - 1, vAt rows (arC b rows.length i) (g + k' - 1)) else none
def arUp (rows : List (List Nat)) (G b g i : Nat) : List Spot := (List.range i).flatMap fun i' => arRow rows G b g i' 3
def arF (rows : List (List Nat)) (G b g : Nat) : List Spot := arUp rows G b g 3
def topR (rows : List (List Nat)) (G b g : Nat) : Bool := (ford .f64 (vAt rows b g) 0 == some .gt) && (arF rows G b g).all fun c => !(nextR c (b, g, vAt rows b g) rows.length && beatsR c (b, g, vAt rows b g))
def gref (rows : List (List Nat)) (k : Nat) : Nat := if k = 0 then (rows[0]?.getD []).length else gatesUp rows k

theorem arRow_succ {rows : List (List Nat)} {G b g i k : Nat} : arRow rows G b g i (k + 1) = arRow rows G b g i k ++ (if arIn G g k = true then [(arC b rows.length i, g + k - 1, vAt rows (arC b rows.length i) (g + k - 1))] else []) := by
  unfold arRow
  rw [List.range_succ, List.filterMap_append]
  congr 1
  by_cases h : arIn G g k = true <;> simp [h]

theorem arRow_len {rows : List (List Nat)} {G b g i k : Nat} : (arRow rows G b g i k).length ≤ k := by
  unfold arRow
  exact Nat.le_trans (List.length_filterMap_le _ _) (by simp)

theorem arUp_succ {rows : List (List Nat)} {G b g i : Nat} : arUp rows G b g (i + 1) = arUp rows G b g i ++ arRow rows G b g i 3 := by
  unfold arUp
  rw [List.range_succ, List.flatMap_append]; simp

theorem arUp_len {rows : List (List Nat)} {G b g : Nat} : ∀ {i : Nat}, (arUp rows G b g i).length ≤ i * 3 := by
  intro i
  induction i with
  | zero => simp [arUp]
  | succ i ih =>
    rw [arUp_succ, List.length_append]
    have := arRow_len (rows := rows) (G := G) (b := b) (g := g) (i := i) (k := 3)
    omega

theorem arC_bins {b B i : Nat} (hb : b < B) (hi : i < 3) : arC b B i = if i = 0 then binsL b B else if i = 1 then b else binsR b B := by
  unfold arC binsL binsR
  have h3 : i = 0 ∨ i = 1 ∨ i = 2 := by omega
  rcases h3 with rfl | rfl | rfl
  · rw [if_pos rfl]
    by_cases h0 : b = 0
    · rw [if_pos h0, h0, Nat.mod_eq_of_lt (by omega)]; omega
    · rw [if_neg h0]
      have e : b + 0 + B - 1 = (b - 1) + B := by omega
      rw [e, Nat.add_mod_right, Nat.mod_eq_of_lt (by omega)]
  · rw [if_neg (by omega), if_pos rfl]
    have e : b + 1 + B - 1 = b + B := by omega
    rw [e, Nat.add_mod_right, Nat.mod_eq_of_lt hb]
  · rw [if_neg (by omega), if_neg (by omega)]
    by_cases h0 : b = B - 1
    · rw [if_pos h0]
      have e : b + 2 + B - 1 = 0 + B + B := by omega
      rw [e, Nat.add_mod_right, Nat.add_mod_right]; exact Nat.zero_mod _
    · rw [if_neg h0]
      have e : b + 2 + B - 1 = (b + 1) + B := by omega
      rw [e, Nat.add_mod_right, Nat.mod_eq_of_lt (by omega)]

theorem mem_arF {rows : List (List Nat)} {G b g : Nat} {c : Spot} : c ∈ arF rows G b g ↔ ∃ i, i < 3 ∧ ∃ k, k < 3 ∧ arIn G g k = true ∧ c = (arC b rows.length i, g + k - 1, vAt rows (arC b rows.length i) (g + k - 1)) := by
  unfold arF arUp arRow
  simp only [List.mem_flatMap, List.mem_filterMap, List.mem_range]
  constructor
  · rintro ⟨i, hi, k, hk, h⟩
    refine ⟨i, hi, k, hk, ?_⟩
    split at h
    · rename_i h1
      exact ⟨h1, by cases h; rfl⟩
    · cases h
  · rintro ⟨i, hi, k, hk, h, rfl⟩
    exact ⟨i, hi, k, hk, by rw [if_pos h]⟩

theorem arF_spot {rows : List (List Nat)} {G b g : Nat} (hb : b < rows.length) {c : Spot} (h : c ∈ arF rows G b g) : c.1 < rows.length ∧ c.2.1 < G ∧ c.2.2 = vAt rows c.1 c.2.1 := by
  obtain ⟨i, hi, k, hk, h1, rfl⟩ := mem_arF.1 h
  unfold arIn at h1
  simp only [Bool.and_eq_true, decide_eq_true_eq] at h1
  exact ⟨Nat.mod_lt _ (by omega), by simp only; omega, rfl⟩

theorem topR_eq {rows : List (List Nat)} {b g : Nat} (hb : b < rows.length) (hg : g < gatesN rows) : topR rows (gatesN rows) b g = topB rows b g := by
  unfold topR topB
  congr 1
  rw [Bool.eq_iff_iff, List.all_eq_true, List.all_eq_true]
  have hB : b < rows.length := hb
  constructor
  · intro h c hc
    rw [Bool.not_eq_true']
    refine Bool.eq_false_iff.2 fun hbt => ?_
    unfold beatB at hbt
    simp only [Bool.and_eq_true, decide_eq_true_eq] at hbt
    obtain ⟨h0, h1, h2⟩ := hbt
    obtain ⟨m1, m2, m3⟩ := mem_nbrs.1 hc
    obtain ⟨i, hi, hci⟩ : ∃ i, i < 3 ∧ c.1 = arC b rows.length i := by
      rcases m1 with m1 | m1 | m1
      · exact ⟨1, by omega, by rw [arC_bins hb (by omega), m1]; rfl⟩
      · exact ⟨0, by omega, by rw [arC_bins hb (by omega), m1]; rfl⟩
      · exact ⟨2, by omega, by rw [arC_bins hb (by omega), m1]; rfl⟩
    have hgn : (c.2.toNat : Int) = c.2 := Int.toNat_of_nonneg h0
    have hm : (c.1, c.2.toNat, vAt rows c.1 c.2.toNat) ∈ arF rows (gatesN rows) b g := by
      refine mem_arF.2 ⟨i, hi, (c.2.toNat + 1 - g), by omega, ?_, ?_⟩
      · unfold arIn; simp only [Bool.and_eq_true, decide_eq_true_eq]; omega
      · rw [← hci]
        have e : g + (c.2.toNat + 1 - g) - 1 = c.2.toNat := by omega
        rw [e]
    have := h _ hm
    rw [Bool.not_eq_true', Bool.and_eq_false_iff] at this
    rcases this with h3 | h3
    · have : nextR (c.1, c.2.toNat, vAt rows c.1 c.2.toNat) (b, g, vAt rows b g) rows.length = true := by
        unfold nextR dA eN
        simp only [Bool.and_eq_true, Bool.not_eq_true', Bool.or_eq_false_iff, Bool.or_eq_true, decide_eq_true_eq, decide_eq_false_iff_not, Bool.and_eq_false_iff]
        have hd : (if c.1 < b then b - c.1 else c.1 - b) < 2 ∨ (if c.1 < b then b - c.1 else c.1 - b) = rows.length - 1 := by
          unfold binsL binsR at m1
          rcases m1 with m1 | m1 | m1
          · left; rw [m1]; simp
          · split at m1 <;> split <;> omega
          · split at m1 <;> split <;> omega
        refine ⟨⟨by omega, by omega, ?_⟩, hd⟩
        by_cases hcb : c.1 = b
        · right
          have := m3.resolve_left (by simp [hcb])
          omega
        · left; split <;> omega
      rw [this] at h3; cases h3
    · have : beatsR (c.1, c.2.toNat, vAt rows c.1 c.2.toNat) (b, g, vAt rows b g) = true := by
        rw [← h2]
        unfold beatsR overB aheadB
        have e : decide (c.2.toNat < g) = decide (c.2 < (g : Int)) := decide_eq_decide.2 (by omega)
        simp only [e]
      rw [this] at h3; cases h3
  · intro h c hc
    rw [Bool.not_eq_true', Bool.and_eq_false_iff]
    rcases Bool.eq_false_or_eq_true (nextR c (b, g, vAt rows b g) rows.length) with hn | hn
    · right
      refine Bool.eq_false_iff.2 fun hbt => ?_
      obtain ⟨i, hi, k, hk, hin, hce⟩ := mem_arF.1 hc
      obtain ⟨s1, s2, s3⟩ := arF_spot hb hc
      have hci : c.1 = arC b rows.length i := by rw [hce]
      unfold nextR dA eN at hn
      simp only [Bool.and_eq_true, Bool.not_eq_true', Bool.or_eq_false_iff, Bool.or_eq_true, decide_eq_true_eq, decide_eq_false_iff_not, Bool.and_eq_false_iff] at hn
      obtain ⟨⟨n1, n2, n3⟩, n4⟩ := hn
      have hm : (c.1, (c.2.1 : Int)) ∈ nbrs b g rows.length := by
        refine mem_nbrs.2 ⟨?_, by simp only; omega, ?_⟩
        · rw [arC_bins hb hi] at hci
          simp only
          rw [hci]
          split
          · exact .inr (.inl rfl)
          · split
            · exact .inl rfl
            · exact .inr (.inr rfl)
        · simp only
          rcases n3 with n3 | n3
          · left; intro e; rw [e] at n3; simp at n3
          · right; omega
      have := h _ hm
      rw [Bool.not_eq_true'] at this
      refine Bool.eq_false_iff.1 this ?_
      unfold beatB
      simp only [Bool.and_eq_true, decide_eq_true_eq]
      refine ⟨by omega, by omega, ?_⟩
      rw [← hbt]
      unfold beatsR overB aheadB
      have e : decide (((c.2.1 : Nat) : Int) < (g : Int)) = decide (c.2.1 < g) := decide_eq_decide.2 (by omega)
      simp only [e, Int.toNat_natCast, s3]
    · exact .inl hn

end Go.Proofs.Ytpphomoijlilfaa

/- Peaks: the document's Highest, walked. -/
namespace Go.Proofs.Ytpphomoijlilfaa
open Go Go.Vam

theorem wantB_u {b : Bool} : wantB undefV b = false := rfl

section
variable {X : Ctx} {fr : Fr} {s : Mm} {t : Tmp} {b : Bool} {d : Option Tmp} {pre : Nat} {l : List DOper} {i : Nat} {hist : List Mm} {acts : List Nat} {flt : List (Nat × Nat × ABlk)} {nid : Nat} {ws : List (Nat × (Mm → Bool))} {Q : Fr → Mm → Prop}
theorem WD_no_call {f : FuncId} {xs : List Operand} (h : wantV fr (some (t, b)) = false) : WD X (⟨⟨.call (.func f) xs, d, some (t, b)⟩, pre⟩ :: l) i fr s hist acts flt nid ws Q = DActK X (some (undefV, (setH s (joinF pre flt s.h).1))) d pre l i fr s hist acts flt nid ws Q := WD_noAct rfl h
end

theorem gref_succ {rows : List (List Nat)} {k : Nat} (hk : k < rows.length) (hl : rows[k].length ≤ 1048576) : gref rows (k + 1) = if rows[k].length < gref rows k then rows[k].length else gref rows k := by
  unfold gref
  rw [if_neg (by omega), gatesUp_succ hk]
  by_cases h0 : k = 0
  · subst h0
    rw [if_pos rfl, List.getElem?_eq_getElem hk, Option.getD_some, if_neg (by omega)]
    have : gatesUp rows 0 = 9223372036854775807 := rfl
    rw [this]; omega
  · rw [if_neg h0]; split <;> omega


set_option maxHeartbeats 2000000 in
theorem run32 {X : Ctx} (hX : X.fns = fnsOf Try.prog) (ho : ∀ f args, f ≠ 15 → X.orc f args = none) {s0 s : Mm} {l : List HP} {mv : Value} {rows : List (List Nat)} {b g G : Nat} (H : Hold s0 s l) (hT : TabE s0 1 eF mv rows) (hb : b < rows.length) (hl : rows.length ≤ 1048576) (hG : ∀ r ∈ rows, G ≤ r.length) (hGm : G ≤ 1048576) (hg : g < G) :
    CallP X 32 [mv, .int .i64 (b : Nat), .int .i64 (g : Nat), .int .i64 (G : Nat)] s (fun r s' => Hold s0 s' (HP.own 3 r (arF rows G b g).length ((arF rows G b g).flatMap eSp) :: l)) := by
  have hB0 : ¬ ((rows.length : Nat) : Int) = 0 := by omega
  refine CallP_of (hX ▸ ir32_eq) (ho _ _ (by decide)) (Nat.le_of_ble_eq_true rfl) ?_
  refine W_seq (W_ops [0, 1, 2, 3] ?_)
  simp only [o32_0, WO_move, WO_nil, geT_put, frame_nil, frame_cons, evO_const, keep_nil, keep_cons, keepK_eq, Nat.reduceEqDiff, Nat.reduceAdd, ↓reduceIte, eq_self, Nat.zero_add]
  intro fr e0 e1 e2 e3
  refine SeqK_n ?_
  refine W_seq (W_ops [0, 1, 2, 3, 9] ?_)
  simp only [o32_1, WO_move, WO_nil, geT_put, evO_const, keep_nil, keep_cons, keepK_eq, Nat.reduceEqDiff, ↓reduceIte, eq_self, e0, e1, e2, e3]
  clear e0 e1 e2 e3
  intro fr e0 e1 e2 e3 e9
  refine SeqK_n ?_
  refine W_assoc ?_
  refine W_seq (W_ops [0, 1, 2, 3, 9, 10] ?_)
  simp only [o32_2, WO_move, WO_nil, geT_put, evO_const, keep_nil, keep_cons, keepK_eq, Nat.reduceEqDiff, ↓reduceIte, eq_self, e0, e1, e2, e3, e9]
  clear e0 e1 e2 e3 e9
  intro fr e0 e1 e2 e3 e9 e10
  refine SeqK_n ?_
  refine W_seq (W_block (W_loop (fun m fr s1 => ∃ i ov, i + m = 3 ∧ geT fr 0 = mv ∧ geT fr 1 = .int .i64 (b : Nat) ∧ geT fr 2 = .int .i64 (g : Nat) ∧ geT fr 3 = .int .i64 (G : Nat) ∧ geT fr 9 = ov ∧ geT fr 10 = .int .i64 ((i : Int) - 1) ∧
    Hold s0 s1 (HP.own 3 ov (arUp rows G b g i).length ((arUp rows G b g i).flatMap eSp) :: l)) 3 ⟨0, _, by omega, e0, e1, e2, e3, e9, e10, by simpa [arUp] using H.nil 3⟩ ?_))
  clear e0 e1 e2 e3 e9 e10 fr H s
  rintro m fr s ⟨i, ov, hi, e0, e1, e2, e3, e9, e10, H⟩
  refine W_assoc ?_
  refine W_seq (W_ops [0, 1, 2, 3, 9, 10, 15] ?_)
  simp only [o32_4, WO_bin, WO_move, bin_leq, WO_nil, PureK_some, geT_put, evO_tmp, evO_const, keep_nil, keep_cons, keepK_eq, Nat.reduceEqDiff, ↓reduceIte, eq_self, e0, e1, e2, e3, e9, e10]
  clear e0 e1 e2 e3 e9 e10
  intro fr e0 e1 e2 e3 e9 e10 e15
  refine SeqK_n ?_
  refine W_while e15 (fun hlt => ?_) (fun hlt => ?_)
  · have hi3 : i < 3 := by omega
    have hau := arUp_len (rows := rows) (G := G) (b := b) (g := g) (i := i)
    refine W_seq (W_block ?_)
    refine W_seq (W_ops [0, 1, 2, 3, 9, 10, 11] ?_)
    simp only [o32_5, WO_move, WO_nil, geT_put, evO_const, keep_nil, keep_cons, keepK_eq, Nat.reduceEqDiff, ↓reduceIte, eq_self, e0, e1, e2, e3, e9, e10]
    clear e0 e1 e2 e3 e9 e10 e15
    intro fr e0 e1 e2 e3 e9 e10 e11
    refine SeqK_n ?_
    refine W_block (W_loop (fun m2 fr s1 => ∃ k ov, k + m2 = 3 ∧ geT fr 0 = mv ∧ geT fr 1 = .int .i64 (b : Nat) ∧ geT fr 2 = .int .i64 (g : Nat) ∧ geT fr 3 = .int .i64 (G : Nat) ∧ geT fr 9 = ov ∧ geT fr 10 = .int .i64 ((i : Int) - 1) ∧ geT fr 11 = .int .i64 ((k : Int) - 1) ∧
      Hold s0 s1 (HP.own 3 ov (arUp rows G b g i ++ arRow rows G b g i k).length ((arUp rows G b g i ++ arRow rows G b g i k).flatMap eSp) :: l)) 3 ⟨0, _, by omega, e0, e1, e2, e3, e9, e10, e11, by simpa [arRow] using H⟩ ?_)
    clear e0 e1 e2 e3 e9 e10 e11 fr H s ov
    rintro m2 fr s ⟨k, ov, hk, e0, e1, e2, e3, e9, e10, e11, H⟩
    refine W_assoc ?_
    refine W_seq (W_ops [0, 1, 2, 3, 9, 10, 11, 19] ?_)
    simp only [o32_7, WO_bin, WO_move, bin_leq, WO_nil, PureK_some, geT_put, evO_tmp, evO_const, keep_nil, keep_cons, keepK_eq, Nat.reduceEqDiff, ↓reduceIte, eq_self, e0, e1, e2, e3, e9, e10, e11]
    clear e0 e1 e2 e3 e9 e10 e11
    intro fr e0 e1 e2 e3 e9 e10 e11 e19
    refine SeqK_n ?_
    refine W_while e19 (fun hlt2 => ?_) (fun hlt2 => ?_)
    · have hk3 : k < 3 := by omega
      have hrl := arRow_len (rows := rows) (G := G) (b := b) (g := g) (i := i) (k := k)
      have hrs := arRow_succ (rows := rows) (G := G) (b := b) (g := g) (i := i) (k := k)
      have harc : ((b : Int) + ((i : Int) - 1) + (rows.length : Nat)).tmod (rows.length : Nat) = (arC b rows.length i : Nat) := by
        have e : (b : Int) + ((i : Int) - 1) + (rows.length : Nat) = ((b + i + rows.length - 1 : Nat) : Int) := by omega
        rw [e, ← Int.ofNat_tmod]; rfl
      have hac : arC b rows.length i < rows.length := Nat.mod_lt _ (by omega)
      have hGa := hG rows[arC b rows.length i] (List.getElem_mem hac)
      refine W_seq (W_block ?_)
      refine W_seq (W_ops [0, 1, 2, 3, 9, 10, 11, 12] ?_)
      simp only [o32_8, WO_bin, WO_bu, WO_move, bin_add, bin_rem, WO_nil, PureK_some, geT_put, evO_tmp, keep_nil, keep_cons, keepK_eq, List.map_cons, List.map_nil, Nat.reduceEqDiff, ↓reduceIte, eq_self, e0, e1, e2, e3, e9, e10, e11, (hT.same H.same).len, wrap_i64 (n := (b : Int) + ((i : Int) - 1)) (by omega) (by omega), wrap_i64 (n := (b : Int) + ((i : Int) - 1) + (rows.length : Nat)) (by omega) (by omega), if_neg hB0, harc]
      clear e0 e1 e2 e3 e9 e10 e11 e19
      intro fr e0 e1 e2 e3 e9 e10 e11 e12
      refine SeqK_n ?_
      refine W_seq (W_ops [0, 1, 2, 3, 9, 10, 11, 12, 13] ?_)
      simp only [o32_9, WO_bin, WO_move, bin_add, WO_nil, PureK_some, geT_put, evO_tmp, keep_nil, keep_cons, keepK_eq, Nat.reduceEqDiff, ↓reduceIte, eq_self, e0, e1, e2, e3, e9, e10, e11, e12, wrap_i64 (n := (g : Int) + ((k : Int) - 1)) (by omega) (by omega)]
      clear e0 e1 e2 e3 e9 e10 e11 e12
      intro fr e0 e1 e2 e3 e9 e10 e11 e12 e13
      refine SeqK_n ?_
      refine W_seq (W_opsB [0, 1, 2, 3, 9, 10, 11, 12, 13, 40] (fun fr1 s6 => s = s6 ∧ geT fr1 0 = mv ∧ geT fr1 1 = .int .i64 (b : Nat) ∧ geT fr1 2 = .int .i64 (g : Nat) ∧ geT fr1 3 = .int .i64 (G : Nat) ∧ geT fr1 9 = ov ∧ geT fr1 10 = .int .i64 ((i : Int) - 1) ∧ geT fr1 11 = .int .i64 ((k : Int) - 1) ∧ geT fr1 12 = .int .i64 (arC b rows.length i : Nat) ∧ geT fr1 13 = .int .i64 ((g : Int) + ((k : Int) - 1)) ∧ geT fr1 40 = .bool (arIn G g k)) ?_ ?_)
      · intro R' hR'
        have d1 : decide (0 ≤ (g : Int) + ((k : Int) - 1)) = decide (1 ≤ g + k) := decide_eq_decide.2 (by omega)
        have d2 : decide ((g : Int) + ((k : Int) - 1) < (G : Nat)) = decide (g + k < G + 1) := decide_eq_decide.2 (by omega)
        cases h1 : decide (1 ≤ g + k) with
        | true =>
          simp only [o32_10, WO_nil, WO_move, WO_pick, WO_bin, WO_guard, PureK_some, geT_put, evO_tmp, evO_const, want_v, wantB_t, keep_nil, keep_cons, keepK_eq, Nat.reduceEqDiff, ↓reduceIte, pick_b, bin_lss, bin_geq, eq_self, e0, e1, e2, e3, e9, e10, e11, e12, e13, d1, h1, d2]
          intro fr e0 e1 e2 e3 e9 e10 e11 e12 e13 e40
          exact hR' _ _ ⟨rfl, e0, e1, e2, e3, e9, e10, e11, e12, e13, by rw [e40, arIn, h1, Bool.true_and]⟩
        | false =>
          simp only [o32_10, WO_nil, WO_move, WO_pick, WO_bin, WO_guard, PureK_some, geT_put, evO_tmp, evO_const, want_v, wantB_t, keep_nil, keep_cons, keepK_eq, Nat.reduceEqDiff, ↓reduceIte, pick_b, bin_geq, eq_self, Bool.false_eq_true, e0, e1, e2, e3, e9, e10, e11, e12, e13, d1, h1]
          intro fr e0 e1 e2 e3 e9 e10 e11 e12 e13 e40
          exact hR' _ _ ⟨rfl, e0, e1, e2, e3, e9, e10, e11, e12, e13, by rw [e40, arIn, h1, Bool.false_and]⟩
      clear e0 e1 e2 e3 e9 e10 e11 e12 e13 fr
      rintro fr _ ⟨rfl, e0, e1, e2, e3, e9, e10, e11, e12, e13, e40⟩
      refine SeqK_n ?_
      cases hin : arIn G g k with
      | true =>
        rw [hin] at e40
        rw [if_pos hin] at hrs
        have hin2 := hin
        unfold arIn at hin2
        simp only [Bool.and_eq_true, decide_eq_true_eq] at hin2
        have hgi : (g : Int) + ((k : Int) - 1) = ((g + k - 1 : Nat) : Int) := by omega
        rw [hgi] at e13
        obtain ⟨c, B1, A1, r1⟩ := (hT.same H.same).row hac
        have B2 := r1.addr (kk := .i64) (i := ((g + k - 1 : Nat) : Int)) rfl (by omega : g + k - 1 < rows[arC b rows.length i].length)
        rw [Nat.mul_one] at B2
        have hq : vAt rows (arC b rows.length i) (g + k - 1) = rows[arC b rows.length i][g + k - 1]'(by omega) := by
          unfold vAt
          rw [List.getElem?_eq_getElem hac, Option.getD_some, List.getElem?_eq_getElem (by omega), Option.getD_some]
        have A2 : loadV s none (elP c (g + k - 1)) = some (.float .f64 (vAt rows (arC b rows.length i) (g + k - 1))) := by
          refine r1.load ?_
          have hfm : rows[arC b rows.length i].flatMap eF = rows[arC b rows.length i].map (.float .f64) := flatMap_one (Value.float .f64) _
          rw [hq, hfm, List.getElem?_map, List.getElem?_eq_getElem (by omega)]; rfl
        obtain ⟨q, hqq⟩ : ∃ q, q = vAt rows (arC b rows.length i) (g + k - 1) := ⟨_, rfl⟩
        rw [← hqq] at A2 hrs
        generalize g + k - 1 = g' at e13 A2 B2 hrs
        generalize arC b rows.length i = b' at e12 B1 A1 hrs
        refine W_cond e40 (fun _ => ?_) (fun h => by cases h)
        have hbu2 : buildV [.int .i64 0, .int .i64 0, .float .f64 0] [(0, 1, .int .i64 (b' : Nat)), (1, 1, .int .i64 (g' : Nat)), (2, 1, .float .f64 q)] = some (.agg #[.int .i64 (b' : Nat), .int .i64 (g' : Nat), .float .f64 q]) := rfl
        have hbs : buildSlV s 3 [.int .i64 0, .int .i64 0, .float .f64 0] 1 [(0, 3, .agg #[.int .i64 (b' : Nat), .int .i64 (g' : Nat), .float .f64 q])] = some (.slice (some ⟨s.nxt, 0, none⟩) 1 1, .cells [.int .i64 (b' : Nat), .int .i64 (g' : Nat), .float .f64 q] false) := rfl
        obtain ⟨ov', s9, ap, H2⟩ := H.push (bytes := 24) (new := eSp (b', g', q)) rfl rfl (by omega) (by decide) (by omega) (by omega) (by rw [List.length_append]; omega)
        have hnew : (arUp rows G b g i ++ arRow rows G b g i k).flatMap eSp ++ eSp (b', g', q) = (arUp rows G b g i ++ arRow rows G b g i (k + 1)).flatMap eSp := by
          rw [hrs, ← List.append_assoc, List.flatMap_append (xs := arUp rows G b g i ++ arRow rows G b g i k)]; simp
        have hnl : (arUp rows G b g i ++ arRow rows G b g i k).length + 1 = (arUp rows G b g i ++ arRow rows G b g i (k + 1)).length := by
          rw [hrs]; simp; omega
        rw [hnew, hnl] at H2
        simp only [eSp] at ap
        refine W_ops [0, 1, 2, 3, 9, 10, 11] ?_
        simp only [o32_11, WO_addrSl, WO_append, WO_build, WO_buildSlice, WO_load, WO_move, WO_nil, PureK_some, MemK_some, NewK_some, geT_put, evO_tmp, keep_nil, keep_cons, keepK_eq, List.map_cons, List.map_nil, Nat.reduceEqDiff, ↓reduceIte, eq_self, Nat.zero_mul, e0, e1, e2, e3, e9, e10, e11, e12, e13, B1, A1, B2, A2, hbu2, hbs, ap]
        clear e0 e1 e2 e3 e9 e10 e11 e12 e13 e40
        intro fr e0 e1 e2 e3 e9 e10 e11
        refine BlkK_n (SeqK_n ?_)
        refine W_ops [0, 1, 2, 3, 9, 10, 11] ?_
        simp only [o32_12, WO_bin, WO_move, bin_add, WO_nil, PureK_some, geT_put, evO_tmp, evO_const, keep_nil, keep_cons, keepK_eq, Nat.reduceEqDiff, ↓reduceIte, eq_self, e0, e1, e2, e3, e9, e10, e11, wrap_i64 (n := (k : Int) - 1 + 1) (by omega) (by omega)]
        clear e0 e1 e2 e3 e9 e10 e11
        intro fr e0 e1 e2 e3 e9 e10 e11
        exact LoopK_n (m' := m2 - 1) (by omega) ⟨k + 1, ov', by omega, e0, e1, e2, e3, e9, e10, by rw [e11]; congr 1; omega, H2⟩
      | false =>
        rw [hin] at e40
        rw [if_neg (by rw [hin]; simp), List.append_nil] at hrs
        refine W_cond e40 (fun h => by cases h) (fun _ => W_skip (BlkK_n (SeqK_n ?_)))
        refine W_ops [0, 1, 2, 3, 9, 10, 11] ?_
        simp only [o32_12, WO_bin, WO_move, bin_add, WO_nil, PureK_some, geT_put, evO_tmp, evO_const, keep_nil, keep_cons, keepK_eq, Nat.reduceEqDiff, ↓reduceIte, eq_self, e0, e1, e2, e3, e9, e10, e11, wrap_i64 (n := (k : Int) - 1 + 1) (by omega) (by omega)]
        clear e0 e1 e2 e3 e9 e10 e11 e12 e13 e40
        intro fr e0 e1 e2 e3 e9 e10 e11
        exact LoopK_n (m' := m2 - 1) (by omega) ⟨k + 1, ov, by omega, e0, e1, e2, e3, e9, e10, by rw [e11]; congr 1; omega, by rw [hrs]; exact H⟩
    · have hk3 : k = 3 := by omega
      rw [hk3, ← arUp_succ] at H
      refine LoopK_x (BlkK_e (BlkK_n (SeqK_n ?_)))
      refine W_ops [0, 1, 2, 3, 9, 10] ?_
      simp only [o32_13, WO_bin, WO_move, bin_add, WO_nil, PureK_some, geT_put, evO_tmp, evO_const, keep_nil, keep_cons, keepK_eq, Nat.reduceEqDiff, ↓reduceIte, eq_self, e0, e1, e2, e3, e9, e10, wrap_i64 (n := (i : Int) - 1 + 1) (by omega) (by omega)]
      clear e0 e1 e2 e3 e9 e10 e11 e19
      intro fr e0 e1 e2 e3 e9 e10
      exact LoopK_n (m' := m - 1) (by omega) ⟨i + 1, ov, by omega, e0, e1, e2, e3, e9, by rw [e10]; congr 1; omega, H⟩
  · have hi3 : i = 3 := by omega
    subst hi3
    refine LoopK_x (BlkK_e (SeqK_n ?_))
    refine W_seq (W_ops [8] ?_)
    simp only [o32_14, WO_move, WO_nil, geT_put, evO_tmp, keep_nil, keep_cons, keepK_eq, ↓reduceIte, eq_self, e9]
    clear e0 e1 e2 e3 e9 e10 e15
    intro fr e8
    refine SeqK_n ?_
    exact W_ret (Ret1 e8 H)

end Go.Proofs.Ytpphomoijlilfaa

/- Peaks: the document's Highest, walked whole. -/
namespace Go.Proofs.Ytpphomoijlilfaa
open Go Go.Vam


set_option maxHeartbeats 4000000 in
theorem run12 {X : Ctx} (hX : X.fns = fnsOf Try.prog) (ho : ∀ f args, f ≠ 15 → X.orc f args = none) {s0 s : Mm} {l : List HP} {mv : Value} {rows : List (List Nat)} (H : Hold s0 s l) (hT : TabE s0 1 eF mv rows) (hl : rows.length ≤ 1048576) (hn : ∀ r ∈ rows, r.length ≤ 1048576) :
    CallP X 12 [mv] s (fun r s' => Hold s0 s' (HP.own 3 r (highF rows).length ((highF rows).flatMap eSp) :: l)) := by
  refine CallP_of (hX ▸ ir12_eq) (ho _ _ (by decide)) (Nat.le_of_ble_eq_true rfl) ?_
  refine W_seq (W_ops [0] ?_)
  simp only [o12_0, WO_move, WO_nil, geT_put, frame_nil, frame_cons, evO_const, keep_nil, keep_cons, keepK_eq, Nat.reduceEqDiff, ↓reduceIte, eq_self, Nat.zero_add]
  intro fr e0
  refine SeqK_n ?_
  refine W_assoc ?_
  have d0 : decide (((rows.length : Nat) : Int) = 0) = decide (rows.length = 0) := decide_eq_decide.2 (by omega)
  refine W_seq (W_ops [0, 15] ?_)
  simp only [o12_1, WO_bin, WO_bu, WO_move, bin_eql, WO_nil, PureK_some, geT_put, evO_tmp, evO_const, keep_nil, keep_cons, keepK_eq, List.map_cons, List.map_nil, Nat.reduceEqDiff, ↓reduceIte, eq_self, e0, (hT.same H.same).len, d0]
  clear e0
  intro fr e0 e15
  refine SeqK_n ?_
  by_cases h0 : rows.length = 0
  · rw [decide_eq_true h0] at e15
    refine W_seq (W_cond e15 (fun _ => ?_) (fun h => by cases h))
    refine W_seq (W_ops [2] ?_)
    simp only [o12_2, WO_move, WO_nil, geT_put, evO_const, keep_nil, keep_cons, keepK_eq, ↓reduceIte, eq_self]
    clear e0 e15
    intro fr e2
    refine SeqK_n ?_
    have hr : rows = [] := List.eq_nil_of_length_eq_zero h0
    subst hr
    exact W_ret (SeqK_r (Ret1 e2 (H.nil 3)))
  rw [decide_eq_false h0] at e15
  refine W_seq (W_cond e15 (fun h => by cases h) (fun _ => W_skip (SeqK_n ?_)))
  obtain ⟨c0, B0, A0, r0⟩ := (hT.same H.same).row (show 0 < rows.length by omega)
  have B0' : addrSlV 1 mv (.int .i64 0) = some (elP mv 0) := B0
  have hn0 := hn rows[0] (List.getElem_mem (by omega))
  refine W_seq (W_ops [0, 3] ?_)
  simp only [o12_3, WO_addrSl, WO_bu, WO_load, WO_move, WO_nil, PureK_some, geT_put, evO_tmp, evO_const, keep_nil, keep_cons, keepK_eq, List.map_cons, List.map_nil, Nat.reduceEqDiff, ↓reduceIte, eq_self, e0, B0', A0, r0.len]
  clear e0 e15
  intro fr e0 e3
  refine SeqK_n ?_
  refine W_assoc ?_
  refine W_seq (W_ops [0, 3, 4] ?_)
  simp only [o12_4, WO_move, WO_nil, geT_put, evO_const, keep_nil, keep_cons, keepK_eq, Nat.reduceEqDiff, ↓reduceIte, eq_self, e0, e3]
  clear e0 e3
  intro fr e0 e3 e4
  refine SeqK_n ?_
  have hg0 : gref rows 0 = rows[0].length := by
    unfold gref
    rw [if_pos rfl, List.getElem?_eq_getElem (by omega), Option.getD_some]
  rw [← hg0] at e3
  refine W_seq (W_block (W_loop (fun m fr s1 => ∃ k, k + m = rows.length ∧ s = s1 ∧ geT fr 0 = mv ∧ geT fr 3 = .int .i64 (gref rows k : Nat) ∧ geT fr 4 = .int .i64 (k : Nat)) rows.length ⟨0, by omega, rfl, e0, e3, e4⟩ ?_))
  clear e0 e3 e4 fr
  rintro m fr _ ⟨k, hk, rfl, e0, e3, e4⟩
  refine W_assoc ?_
  refine W_seq (W_ops [0, 3, 4, 23] ?_)
  simp only [o12_6, WO_bin, WO_bu, WO_move, bin_lss, WO_nil, PureK_some, geT_put, evO_tmp, keep_nil, keep_cons, keepK_eq, List.map_cons, List.map_nil, Nat.reduceEqDiff, ↓reduceIte, eq_self, e0, e3, e4, (hT.same H.same).len]
  clear e0 e3 e4
  intro fr e0 e3 e4 e23
  refine SeqK_n ?_
  refine W_while e23 (fun hlt => ?_) (fun hlt => ?_)
  · have hk1 : k < rows.length := by omega
    have hnk := hn rows[k] (List.getElem_mem hk1)
    obtain ⟨c, B1, A1, r1⟩ := (hT.same H.same).row hk1
    have hmin : (if ((rows[k].length : Nat) : Int) < ((gref rows k : Nat) : Int) then ((rows[k].length : Nat) : Int) else ((gref rows k : Nat) : Int)) = ((gref rows (k + 1) : Nat) : Int) := by
      rw [gref_succ hk1 hnk]
      by_cases h : rows[k].length < gref rows k
      · rw [if_pos (by omega), if_pos h]
      · rw [if_neg (by omega), if_neg h]
    refine W_seq (W_block ?_)
    refine W_ops [0, 3, 4] ?_
    simp only [o12_7, WO_addrSl, WO_bu, bu_min, WO_load, WO_move, WO_nil, PureK_some, geT_put, evO_tmp, keep_nil, keep_cons, keepK_eq, List.map_cons, List.map_nil, Nat.reduceEqDiff, ↓reduceIte, eq_self, e0, e3, e4, B1, A1, r1.len, hmin]
    clear e0 e3 e4 e23
    intro fr e0 e3 e4
    refine BlkK_n (SeqK_n ?_)
    refine W_ops [0, 3, 4] ?_
    simp only [o12_8, WO_bin, WO_move, bin_add, WO_nil, PureK_some, geT_put, evO_tmp, evO_const, keep_nil, keep_cons, keepK_eq, Nat.reduceEqDiff, ↓reduceIte, eq_self, e0, e3, e4, wrap_i64 (n := (k : Int) + 1) (by omega) (by omega)]
    clear e0 e3 e4
    intro fr e0 e3 e4
    exact LoopK_n (m' := m - 1) (by omega) ⟨k + 1, by omega, rfl, e0, e3, by rw [e4]; rfl⟩
  · have hkk : k = rows.length := by omega
    subst hkk
    have hgg : gref rows rows.length = gatesN rows := by
      unfold gref
      rw [if_neg h0]; rfl
    rw [hgg] at e3
    obtain ⟨G, hG⟩ : ∃ G, G = gatesN rows := ⟨_, rfl⟩
    rw [← hG] at e3
    have hGle : ∀ r ∈ rows, G ≤ r.length := by rw [hG]; exact gates_le
    have hGm : G ≤ 1048576 := by have := hGle rows[0] (List.getElem_mem (by omega)); omega
    refine LoopK_x (BlkK_e (SeqK_n ?_))
    refine W_seq (W_ops [0, 3, 5] ?_)
    simp only [o12_9, WO_move, WO_nil, geT_put, evO_const, keep_nil, keep_cons, keepK_eq, Nat.reduceEqDiff, ↓reduceIte, eq_self, e0, e3]
    clear e0 e3 e4 e23
    intro fr e0 e3 e5
    refine SeqK_n ?_
    refine W_assoc ?_
    refine W_seq (W_ops [0, 3, 5, 6] ?_)
    simp only [o12_10, WO_move, WO_nil, geT_put, evO_const, keep_nil, keep_cons, keepK_eq, Nat.reduceEqDiff, ↓reduceIte, eq_self, e0, e3, e5]
    clear e0 e3 e5
    intro fr e0 e3 e5 e6
    refine SeqK_n ?_
    refine W_seq (W_block (W_loop (fun m fr s1 => ∃ j ov, j + m = rows.length ∧ geT fr 0 = mv ∧ geT fr 3 = .int .i64 (G : Nat) ∧ geT fr 5 = ov ∧ geT fr 6 = .int .i64 (j : Nat) ∧
      Hold s0 s1 (HP.own 3 ov (highUp rows j).length ((highUp rows j).flatMap eSp) :: l)) rows.length ⟨0, _, by omega, e0, e3, e5, e6, by simpa [highUp] using H.nil 3⟩ ?_))
    clear e0 e3 e5 e6 fr H B0 A0 r0 B0' s hk hlt
    rintro m fr s ⟨j, ov, hj, e0, e3, e5, e6, H⟩
    refine W_assoc ?_
    refine W_seq (W_ops [0, 3, 5, 6, 36] ?_)
    simp only [o12_12, WO_bin, WO_bu, WO_move, bin_lss, WO_nil, PureK_some, geT_put, evO_tmp, keep_nil, keep_cons, keepK_eq, List.map_cons, List.map_nil, Nat.reduceEqDiff, ↓reduceIte, eq_self, e0, e3, e5, e6, (hT.same H.same).len]
    clear e0 e3 e5 e6
    intro fr e0 e3 e5 e6 e36
    refine SeqK_n ?_
    refine W_while e36 (fun hlt => ?_) (fun hlt => ?_)
    · have hj1 : j < rows.length := by omega
      have hGj := hGle rows[j] (List.getElem_mem hj1)
      have hlen := highUp_len (rows := rows) (j := j)
      have hGmm : j * gatesN rows ≤ 1048576 * 1048576 := by rw [← hG]; exact Nat.mul_le_mul (by omega) (by omega)
      refine W_seq (W_block ?_)
      refine W_seq (W_ops [0, 3, 5, 6, 7] ?_)
      simp only [o12_13, WO_move, WO_nil, geT_put, evO_const, keep_nil, keep_cons, keepK_eq, Nat.reduceEqDiff, ↓reduceIte, eq_self, e0, e3, e5, e6]
      clear e0 e3 e5 e6 e36
      intro fr e0 e3 e5 e6 e7
      refine SeqK_n ?_
      refine W_block (W_loop (fun m2 fr s1 => ∃ k ov, k + m2 = G ∧ geT fr 0 = mv ∧ geT fr 3 = .int .i64 (G : Nat) ∧ geT fr 5 = ov ∧ geT fr 6 = .int .i64 (j : Nat) ∧ geT fr 7 = .int .i64 (k : Nat) ∧
        Hold s0 s1 (HP.own 3 ov (highUp rows j ++ highRow rows j k).length ((highUp rows j ++ highRow rows j k).flatMap eSp) :: l)) G ⟨0, _, by omega, e0, e3, e5, e6, e7, by simpa [highRow] using H⟩ ?_)
      clear e0 e3 e5 e6 e7 fr H s ov
      rintro m2 fr s ⟨k, ov, hk, e0, e3, e5, e6, e7, H⟩
      refine W_assoc ?_
      refine W_seq (W_ops [0, 3, 5, 6, 7, 41] ?_)
      simp only [o12_15, WO_bin, WO_move, bin_lss, WO_nil, PureK_some, geT_put, evO_tmp, keep_nil, keep_cons, keepK_eq, Nat.reduceEqDiff, ↓reduceIte, eq_self, e0, e3, e5, e6, e7]
      clear e0 e3 e5 e6 e7
      intro fr e0 e3 e5 e6 e7 e41
      refine SeqK_n ?_
      refine W_while e41 (fun hlt2 => ?_) (fun hlt2 => ?_)
      · have hk1 : k < G := by omega
        have hlen2 := highRow_len (rows := rows) (b := j) (k := k)
        have hrs := highRow_succ (rows := rows) (b := j) (k := k)
        obtain ⟨c, B1, A1, r1⟩ := (hT.same H.same).row hj1
        have B2 := r1.addr (kk := .i64) (i := (k : Int)) rfl (by omega : k < rows[j].length)
        rw [Nat.mul_one] at B2
        have hq : vAt rows j k = rows[j][k]'(by omega) := by
          unfold vAt
          rw [List.getElem?_eq_getElem hj1, Option.getD_some, List.getElem?_eq_getElem (by omega), Option.getD_some]
        have A2 : loadV s none (elP c k) = some (.float .f64 (vAt rows j k)) := by
          refine r1.load ?_
          have hfm : rows[j].flatMap eF = rows[j].map (.float .f64) := flatMap_one (Value.float .f64) _
          rw [hq, hfm, List.getElem?_map, List.getElem?_eq_getElem (by omega)]; rfl
        obtain ⟨p, hp⟩ : ∃ p, p = vAt rows j k := ⟨_, rfl⟩
        rw [← hp] at A2
        obtain ⟨x, hx⟩ : ∃ x : Spot, x = (j, k, p) := ⟨_, rfl⟩
        have hbu : buildV [.int .i64 0, .int .i64 0, .float .f64 0] [(0, 1, .int .i64 (j : Nat)), (1, 1, .int .i64 (k : Nat)), (2, 1, .float .f64 p)] = some (.agg #[.int .i64 (j : Nat), .int .i64 (k : Nat), .float .f64 p]) := rfl
        have H2 := H.new [.int .i64 0, .int .i64 0, .float .f64 0]
        have st : storeV (newAt s (.cells [.int .i64 0, .int .i64 0, .float .f64 0] false)) 3 (.pointer (some ⟨s.nxt, 0, none⟩)) (.agg #[.int .i64 (j : Nat), .int .i64 (k : Nat), .float .f64 p]) = some (undefV, setBlk (newAt s (.cells [.int .i64 0, .int .i64 0, .float .f64 0] false)) s.nxt (.cells (eSp x) false)) := by
          rw [hx]; exact store_all (vs := eSp (j, k, p)) (H2.cell (List.mem_cons_self ..)) rfl rfl rfl
        have H3 := H2.setc (cs' := eSp x)
        refine W_seq (W_block ?_)
        refine W_seq (W_ops [0, 3, 5, 6, 7, 8] ?_)
        simp only [o12_16, WO_addrSl, WO_alloc, WO_build, WO_load, WO_move, WO_store, WO_nil, PureK_some, MemK_some, geT_put, puT_none, evO_tmp, keep_nil, keep_cons, keepK_eq, List.map_cons, List.map_nil, Nat.reduceEqDiff, ↓reduceIte, eq_self, e0, e3, e5, e6, e7, B1, A1, B2, A2, hbu, st]
        clear e0 e3 e5 e6 e7 e41
        intro fr e0 e3 e5 e6 e7 e8
        refine SeqK_n ?_
        clear H2 st hbu
        generalize setBlk (newAt s (.cells [.int .i64 0, .int .i64 0, .float .f64 0] false)) s.nxt (.cells (eSp x) false) = s1 at H3 ⊢
        generalize s.nxt = Bp at H3 e8
        refine W_seq (W_ops [0, 3, 5, 6, 7, 8, 9] ?_)
        simp only [o12_17, WO_call, WO_move, geT_put, evO_tmp, List.map_cons, List.map_nil, Nat.reduceEqDiff, ↓reduceIte, eq_self, e0, e3, e6, e7]
        refine CallK_of (run32 hX ho H3 hT hj1 hl hGle hGm hk1) ?_
        rintro av s2 H4
        simp only [WO_move, WO_nil, geT_put, evO_tmp, keep_nil, keep_cons, keepK_eq, Nat.reduceEqDiff, ↓reduceIte, eq_self, e0, e3, e5, e6, e7, e8]
        clear e0 e3 e5 e6 e7 e8
        intro fr e0 e3 e5 e6 e7 e8 e9
        refine SeqK_n ?_
        obtain ⟨L, hL⟩ : ∃ L, L = arF rows G j k := ⟨_, rfl⟩
        rw [← hL] at H4
        have hLl : L.length ≤ 9 := by rw [hL]; exact arUp_len (i := 3)
        have lp := load_g (o := 2) (H4.cell (B := Bp) (cs := eSp x) (by simp))
        have hx2 : (eSp x)[2]? = some (.float .f64 p) := by rw [hx]; rfl
        rw [hx2] at lp
        refine W_seq (W_ops [0, 3, 5, 6, 7, 8, 9, 10] ?_)
        simp only [o12_18, WO_bin, WO_fieldAddr, fieldAddr_p, WO_load, WO_move, binf_gtr, WO_nil, PureK_some, geT_put, evO_tmp, evO_const, keep_nil, keep_cons, keepK_eq, Nat.reduceEqDiff, ↓reduceIte, eq_self, Nat.zero_add, e0, e3, e5, e6, e7, e8, e9, lp]
        clear e0 e3 e5 e6 e7 e8 e9
        intro fr e0 e3 e5 e6 e7 e8 e9 e10
        refine SeqK_n ?_
        obtain ⟨t0, ht0⟩ : ∃ t0, t0 = (ford .f64 p 0 == some .gt) := ⟨_, rfl⟩
        rw [← ht0] at e10
        refine W_assoc ?_
        refine W_seq (W_ops [0, 3, 5, 6, 7, 8, 9, 10, 11] ?_)
        simp only [o12_19, WO_move, WO_nil, geT_put, evO_const, keep_nil, keep_cons, keepK_eq, Nat.reduceEqDiff, ↓reduceIte, eq_self, e0, e3, e5, e6, e7, e8, e9, e10]
        clear e0 e3 e5 e6 e7 e8 e9 e10
        intro fr e0 e3 e5 e6 e7 e8 e9 e10 e11
        refine SeqK_n ?_
        refine W_seq (W_block (W_loop (fun m3 fr s1 => ∃ i, i + m3 = L.length ∧ geT fr 0 = mv ∧ geT fr 3 = .int .i64 (G : Nat) ∧ geT fr 5 = ov ∧ geT fr 6 = .int .i64 (j : Nat) ∧ geT fr 7 = .int .i64 (k : Nat) ∧ geT fr 8 = .pointer (some ⟨Bp, 0, none⟩) ∧ geT fr 9 = av ∧
          geT fr 10 = .bool (t0 && (L.take i).all fun c => !(nextR c x rows.length && beatsR c x)) ∧ geT fr 11 = .int .i64 (i : Nat) ∧
          Hold s0 s1 (HP.own 3 av L.length (L.flatMap eSp) :: HP.cell Bp (eSp x) :: HP.own 3 ov (highUp rows j ++ highRow rows j k).length ((highUp rows j ++ highRow rows j k).flatMap eSp) :: l)) L.length
          ⟨0, by omega, e0, e3, e5, e6, e7, e8, e9, by rw [e10]; simp, e11, H4⟩ ?_))
        clear e0 e3 e5 e6 e7 e8 e9 e10 e11 fr H4 H3 lp H B1 A1 r1 B2 A2 s2 s1 s
        rintro m3 fr s ⟨i, hi, e0, e3, e5, e6, e7, e8, e9, e10, e11, H⟩
        have sl := (H.own (List.mem_cons_self ..)).slc
        refine W_assoc ?_
        refine W_seq (W_ops [0, 3, 5, 6, 7, 8, 9, 10, 11, 65] ?_)
        simp only [o12_21, WO_bin, WO_bu, WO_move, bin_lss, WO_nil, PureK_some, geT_put, evO_tmp, keep_nil, keep_cons, keepK_eq, List.map_cons, List.map_nil, Nat.reduceEqDiff, ↓reduceIte, eq_self, e0, e3, e5, e6, e7, e8, e9, e10, e11, sl.len]
        clear e0 e3 e5 e6 e7 e8 e9 e10 e11
        intro fr e0 e3 e5 e6 e7 e8 e9 e10 e11 e65
        refine SeqK_n ?_
        refine W_while e65 (fun hlt3 => ?_) (fun hlt3 => ?_)
        · have hi1 : i < L.length := by omega
          obtain ⟨c, hc⟩ : ∃ c, c = L[i] := ⟨_, rfl⟩
          obtain ⟨m1, m2', m3'⟩ := arF_spot (rows := rows) (G := G) (g := k) hj1 (c := c) (by rw [hc, ← hL]; exact List.getElem_mem hi1)
          have aI := sl.addr (kk := .i64) (i := (i : Int)) rfl hi1
          have ld : ∀ s', Same s s' (fun _ => False) → loadV s' (some 3) (elP av (i * 3)) = some (sV c) := fun s' hs => by
            rw [(sl.same hs (fun _ _ h => h)).loads (by omega) (by omega), (flat3 hi1).2.2.2, hc]; rfl
          have lx : ∀ s', Same s s' (fun _ => False) → loadV s' (some 3) (.pointer (some ⟨Bp, 0, none⟩)) = some (sV x) := fun s' hs =>
            loadn_all ((H.keep hs).cell (B := Bp) (cs := eSp x) (by simp)) rfl
          have lI := ld s (.refl _ _)
          have lX := lx s (.refl _ _)
          have hxb : x.1 < rows.length := by rw [hx]; exact hj1
          have hxg : x.2.1 ≤ 1099511627776 := by rw [hx]; simp only; omega
          have hall : (t0 && (L.take (i + 1)).all fun c => !(nextR c x rows.length && beatsR c x)) = ((t0 && (L.take i).all fun c => !(nextR c x rows.length && beatsR c x)) && !(nextR c x rows.length && beatsR c x)) := by
            rw [List.take_add_one, List.getElem?_eq_getElem hi1, List.all_append, Bool.and_assoc, hc]; simp
          generalize (t0 && (L.take i).all fun c => !(nextR c x rows.length && beatsR c x)) = t at e10 hall
          refine W_seq (W_block ?_)
          refine W_seq (W_draw0 [0, 3, 5, 6, 7, 8, 9, 10, 11, 12] rfl ?_)
          simp only [d12_22, WD_addrSl, WD_bu, WD_call, WD_load, WD_move, DPureK_some, DReadK_some, pastR_nil, joinF_nil, setH_self, geT_put, evO_tmp, List.map_cons, List.map_nil, Nat.reduceEqDiff, Nat.reduceAdd, ↓reduceIte, eq_self, true_and, Nat.zero_add, e0, e8, e9, e11, aI, lI, lX, (hT.same H.same).len]
          refine DCallK_of rfl (run33 hX ho m1 hxb (by omega) (by omega) hxg) ?_
          rintro _ s3 ⟨rfl, hs3⟩
          simp only [WD_move, WD_nil, DPureK_some, joinF_nil, joinAll_nil, setH_self, Nat.testBit, Nat.reduceShiftRight, Nat.reduceAnd, Nat.reduceBneDiff, List.all_nil, List.all_cons, List.filter_nil, List.filter_cons, geT_put, evO_tmp, keep_nil, keep_cons, keepK_eq, Nat.reduceEqDiff, Nat.reduceAdd, ↓reduceIte, Bool.not_true, Bool.and_true, Bool.true_or, eq_self, Bool.false_eq_true, true_and, e0, e3, e5, e6, e7, e8, e9, e10, e11]
          clear e0 e3 e5 e6 e7 e8 e9 e10 e11 e65
          intro fr e0 e3 e5 e6 e7 e8 e9 e10 e11 e12
          refine SeqK_n ?_
          have lI3 := ld s3 hs3
          have lX3 := lx s3 hs3
          have fin : ∀ (fr : Fr) (s4 : Mm), Same s s4 (fun _ => False) → geT fr 0 = mv → geT fr 3 = .int .i64 (G : Nat) → geT fr 5 = ov → geT fr 6 = .int .i64 (j : Nat) → geT fr 7 = .int .i64 (k : Nat) → geT fr 8 = .pointer (some ⟨Bp, 0, none⟩) → geT fr 9 = av → geT fr 10 = .bool (t && !(nextR c x rows.length && beatsR c x)) → geT fr 11 = .int .i64 ((i : Int) + 1) → 
              ∃ i, i + (m3 - 1) = L.length ∧ geT fr 0 = mv ∧ geT fr 3 = .int .i64 (G : Nat) ∧ geT fr 5 = ov ∧ geT fr 6 = .int .i64 (j : Nat) ∧ geT fr 7 = .int .i64 (k : Nat) ∧ geT fr 8 = .pointer (some ⟨Bp, 0, none⟩) ∧ geT fr 9 = av ∧
                geT fr 10 = .bool (t0 && (L.take i).all fun c => !(nextR c x rows.length && beatsR c x)) ∧ geT fr 11 = .int .i64 (i : Nat) ∧
                Hold s0 s4 (HP.own 3 av L.length (L.flatMap eSp) :: HP.cell Bp (eSp x) :: HP.own 3 ov (highUp rows j ++ highRow rows j k).length ((highUp rows j ++ highRow rows j k).flatMap eSp) :: l) :=
            fun fr s4 hs e0 e3 e5 e6 e7 e8 e9 e10 e11 => ⟨i + 1, by omega, e0, e3, e5, e6, e7, e8, e9, by rw [e10, hall], by rw [e11]; rfl, H.keep hs⟩
          cases t with
          | false =>
            refine W_draw0 [0, 3, 5, 6, 7, 8, 9, 10, 11] rfl ?_
            simp only [d12_23, WD_move, WD_pick, pick_b, want_v, wantB_t, WD_nil, DPureK_some, DActK_some, preHead_nil, joinF_nil, joinAll_nil, setH_self, Nat.testBit, List.all_nil, List.filter_nil, geT_put, evO_tmp, evO_const, keep_nil, keep_cons, keepK_eq, Nat.reduceEqDiff, Nat.reduceAdd, ↓reduceIte, eq_self, Bool.false_eq_true, true_and, Nat.zero_add, e0, e3, e5, e6, e7, e8, e9, e10, e11, WD_no_move, WD_no_addrSl, WD_no_load, WD_no_pick, WD_no_un, WD_no_call, wantB_u]
            clear e0 e3 e5 e6 e7 e8 e9 e10 e11 e12
            intro fr e0 e3 e5 e6 e7 e8 e9 e10 e11
            refine BlkK_n (SeqK_n ?_)
            refine W_ops [0, 3, 5, 6, 7, 8, 9, 10, 11] ?_
            simp only [o12_24, WO_bin, WO_move, bin_add, WO_nil, PureK_some, geT_put, evO_tmp, evO_const, keep_nil, keep_cons, keepK_eq, Nat.reduceEqDiff, ↓reduceIte, eq_self, e0, e3, e5, e6, e7, e8, e9, e10, e11, wrap_i64 (n := (i : Int) + 1) (by omega) (by omega)]
            clear e0 e3 e5 e6 e7 e8 e9 e10 e11
            intro fr e0 e3 e5 e6 e7 e8 e9 e10 e11
            exact LoopK_n (m' := m3 - 1) (by omega) (fin _ _ hs3 e0 e3 e5 e6 e7 e8 e9 (by rw [e10]; rfl) e11)
          | true =>
            cases hnx : nextR c x rows.length with
            | false =>
              refine W_draw0 [0, 3, 5, 6, 7, 8, 9, 10, 11] rfl ?_
              simp only [d12_23, WD_move, WD_pick, pick_b, WD_un, un_not, want_v, wantB_t, WD_nil, DPureK_some, DActK_some, preHead_nil, joinF_nil, joinAll_nil, setH_self, Nat.testBit, List.all_nil, List.filter_nil, geT_put, evO_tmp, evO_const, keep_nil, keep_cons, keepK_eq, Nat.reduceEqDiff, Nat.reduceAdd, ↓reduceIte, Bool.not_false, eq_self, Bool.false_eq_true, true_and, Nat.zero_add, e0, e3, e5, e6, e7, e8, e9, e10, e11, e12, hnx, WD_yes, WD_no_move, WD_no_addrSl, WD_no_load, WD_no_call]
              clear e0 e3 e5 e6 e7 e8 e9 e10 e11 e12
              intro fr e0 e3 e5 e6 e7 e8 e9 e10 e11
              refine BlkK_n (SeqK_n ?_)
              refine W_ops [0, 3, 5, 6, 7, 8, 9, 10, 11] ?_
              simp only [o12_24, WO_bin, WO_move, bin_add, WO_nil, PureK_some, geT_put, evO_tmp, evO_const, keep_nil, keep_cons, keepK_eq, Nat.reduceEqDiff, ↓reduceIte, eq_self, e0, e3, e5, e6, e7, e8, e9, e10, e11, wrap_i64 (n := (i : Int) + 1) (by omega) (by omega)]
              clear e0 e3 e5 e6 e7 e8 e9 e10 e11
              intro fr e0 e3 e5 e6 e7 e8 e9 e10 e11
              exact LoopK_n (m' := m3 - 1) (by omega) (fin _ _ hs3 e0 e3 e5 e6 e7 e8 e9 (by rw [e10, hnx]; rfl) e11)
            | true =>
              refine W_draw0 [0, 3, 5, 6, 7, 8, 9, 10, 11] rfl ?_
              simp only [d12_23, WD_addrSl, WD_call, WD_load, WD_move, want_v, wantB_t, DPureK_some, DReadK_some, pastR_nil, joinF_nil, setH_self, geT_put, evO_tmp, List.map_cons, List.map_nil, Nat.reduceEqDiff, Nat.reduceAdd, ↓reduceIte, eq_self, true_and, Nat.zero_add, e8, e9, e10, e11, e12, hnx, WD_yes, aI, lI3, lX3]
              refine DCallK_of rfl (run34 hX ho) ?_
              rintro _ s4 ⟨rfl, hs4⟩
              simp only [WD_move, WD_pick, pick_b, WD_un, un_not, want_v, wantB_t, WD_nil, DPureK_some, joinF_nil, joinAll_nil, setH_self, Nat.testBit, Nat.reduceShiftRight, Nat.reduceAnd, Nat.reduceBneDiff, List.all_nil, List.all_cons, List.filter_nil, List.filter_cons, geT_put, evO_tmp, evO_const, keep_nil, keep_cons, keepK_eq, Nat.reduceEqDiff, Nat.reduceAdd, ↓reduceIte, Bool.not_true, Bool.and_true, Bool.true_or, eq_self, Bool.false_eq_true, true_and, e0, e3, e5, e6, e7, e8, e9, e11, WD_yes]
              clear e0 e3 e5 e6 e7 e8 e9 e10 e11 e12
              intro fr e0 e3 e5 e6 e7 e8 e9 e10 e11
              refine BlkK_n (SeqK_n ?_)
              refine W_ops [0, 3, 5, 6, 7, 8, 9, 10, 11] ?_
              simp only [o12_24, WO_bin, WO_move, bin_add, WO_nil, PureK_some, geT_put, evO_tmp, evO_const, keep_nil, keep_cons, keepK_eq, Nat.reduceEqDiff, ↓reduceIte, eq_self, e0, e3, e5, e6, e7, e8, e9, e10, e11, wrap_i64 (n := (i : Int) + 1) (by omega) (by omega)]
              clear e0 e3 e5 e6 e7 e8 e9 e10 e11
              intro fr e0 e3 e5 e6 e7 e8 e9 e10 e11
              exact LoopK_n (m' := m3 - 1) (by omega) (fin _ _ (hs3.trans hs4 (fun _ _ h => h) (fun _ _ h => h)) e0 e3 e5 e6 e7 e8 e9 (by rw [e10, hnx]; simp) e11)
        · have hil : i = L.length := by omega
          have htop : (t0 && (L.take i).all fun c => !(nextR c x rows.length && beatsR c x)) = topB rows j k := by
            rw [hil, List.take_length, hL, ht0, hx, hp]
            have := topR_eq (rows := rows) (b := j) (g := k) hj1 (by omega)
            rw [← hG] at this
            exact this
          rw [htop] at e10
          refine LoopK_x (BlkK_e (SeqK_n ?_))
          refine W_seq (W_ops [0, 3, 5, 6, 7, 8, 89] ?_)
          simp only [o12_25, WO_move, WO_nil, geT_put, evO_tmp, keep_nil, keep_cons, keepK_eq, Nat.reduceEqDiff, ↓reduceIte, eq_self, e0, e3, e5, e6, e7, e8, e10]
          clear e0 e3 e5 e6 e7 e8 e9 e10 e11 e65
          intro fr e0 e3 e5 e6 e7 e8 e89
          refine SeqK_n ?_
          have lX : loadV s (some 3) (.pointer (some ⟨Bp, 0, none⟩)) = some (.agg (eSp x).toArray) := loadn_all (H.cell (B := Bp) (cs := eSp x) (by simp)) rfl
          have H5 : Hold s0 s (HP.own 3 ov (highUp rows j ++ highRow rows j k).length ((highUp rows j ++ highRow rows j k).flatMap eSp) :: l) := H.sub (.cons _ (.cons _ (List.Sublist.refl _)))
          cases htb : topB rows j k with
          | true =>
            rw [htb] at e89
            rw [if_pos htb] at hrs
            refine W_cond e89 (fun _ => ?_) (fun h => by cases h)
            have hbs : buildSlV s 3 [.int .i64 0, .int .i64 0, .float .f64 0] 1 [(0, 3, .agg (eSp x).toArray)] = some (.slice (some ⟨s.nxt, 0, none⟩) 1 1, .cells (eSp x) false) := rfl
            obtain ⟨ov', s9, ap, H6⟩ := H5.push (bytes := 24) (new := eSp x) rfl rfl (by omega) (by decide) (by omega) (by omega) (by rw [List.length_append]; omega)
            have hnew : (highUp rows j ++ highRow rows j k).flatMap eSp ++ eSp x = (highUp rows j ++ highRow rows j (k + 1)).flatMap eSp := by
              rw [hrs, ← List.append_assoc, List.flatMap_append (xs := highUp rows j ++ highRow rows j k), hx, hp]; simp
            have hnl : (highUp rows j ++ highRow rows j k).length + 1 = (highUp rows j ++ highRow rows j (k + 1)).length := by
              rw [hrs]; simp; omega
            rw [hnew, hnl] at H6
            refine W_ops [0, 3, 5, 6, 7] ?_
            simp only [o12_26, WO_append, WO_buildSlice, WO_load, WO_move, WO_nil, PureK_some, MemK_some, NewK_some, geT_put, evO_tmp, keep_nil, keep_cons, keepK_eq, List.map_cons, List.map_nil, Nat.reduceEqDiff, ↓reduceIte, eq_self, Nat.zero_mul, e0, e3, e5, e6, e7, e8, lX, hbs, ap]
            clear e0 e3 e5 e6 e7 e8 e89
            intro fr e0 e3 e5 e6 e7
            refine BlkK_n (SeqK_n ?_)
            refine W_ops [0, 3, 5, 6, 7] ?_
            simp only [o12_27, WO_bin, WO_move, bin_add, WO_nil, PureK_some, geT_put, evO_tmp, evO_const, keep_nil, keep_cons, keepK_eq, Nat.reduceEqDiff, ↓reduceIte, eq_self, e0, e3, e5, e6, e7, wrap_i64 (n := (k : Int) + 1) (by omega) (by omega)]
            clear e0 e3 e5 e6 e7
            intro fr e0 e3 e5 e6 e7
            exact LoopK_n (m' := m2 - 1) (by omega) ⟨k + 1, ov', by omega, e0, e3, e5, e6, by rw [e7]; rfl, H6⟩
          | false =>
            rw [htb] at e89
            rw [if_neg (by rw [htb]; simp), List.append_nil] at hrs
            refine W_cond e89 (fun h => by cases h) (fun _ => W_skip (BlkK_n (SeqK_n ?_)))
            refine W_ops [0, 3, 5, 6, 7] ?_
            simp only [o12_27, WO_bin, WO_move, bin_add, WO_nil, PureK_some, geT_put, evO_tmp, evO_const, keep_nil, keep_cons, keepK_eq, Nat.reduceEqDiff, ↓reduceIte, eq_self, e0, e3, e5, e6, e7, wrap_i64 (n := (k : Int) + 1) (by omega) (by omega)]
            clear e0 e3 e5 e6 e7 e8 e89
            intro fr e0 e3 e5 e6 e7
            exact LoopK_n (m' := m2 - 1) (by omega) ⟨k + 1, ov, by omega, e0, e3, e5, e6, by rw [e7]; rfl, by rw [hrs]; exact H5⟩
      · have hkG : k = gatesN rows := by omega
        rw [hkG, ← highUp_succ] at H
        refine LoopK_x (BlkK_e (BlkK_n (SeqK_n ?_)))
        refine W_ops [0, 3, 5, 6] ?_
        simp only [o12_28, WO_bin, WO_move, bin_add, WO_nil, PureK_some, geT_put, evO_tmp, evO_const, keep_nil, keep_cons, keepK_eq, Nat.reduceEqDiff, ↓reduceIte, eq_self, e0, e3, e5, e6, wrap_i64 (n := (j : Int) + 1) (by omega) (by omega)]
        clear e0 e3 e5 e6 e7 e41
        intro fr e0 e3 e5 e6
        exact LoopK_n (m' := m - 1) (by omega) ⟨j + 1, ov, by omega, e0, e3, e5, by rw [e6]; rfl, H⟩
    · have hjl : j = rows.length := by omega
      subst hjl
      refine LoopK_x (BlkK_e (SeqK_n ?_))
      refine W_seq (W_ops [2] ?_)
      simp only [o12_29, WO_move, WO_nil, geT_put, evO_tmp, keep_nil, keep_cons, keepK_eq, ↓reduceIte, eq_self, e5]
      clear e0 e3 e5 e6 e36
      intro fr e2
      refine SeqK_n ?_
      exact W_ret (Ret1 e2 H)

end Go.Proofs.Ytpphomoijlilfaa

/- PeaksHighest, walked. -/
namespace Go.Proofs.Ytpphomoijlilfaa
open Go Go.Vam

def mkF : List Value := [.float .f64 9094988921128908188]

theorem buildSl_sl {s : Mm} {c : Value} (h : oneCell c = true) : buildSlV s 1 [.slice none 0 0] 1 [(0, 1, c)] = some (.slice (some ⟨s.nxt, 0, none⟩) 1 1, .cells [c] false) := by
  cases c <;> first | rfl | cases h

theorem eF_map (r : List Nat) : r.flatMap eF = r.map (Value.float .f64) := flatMap_one (Value.float .f64) _
theorem eF_len (r : List Nat) : (r.flatMap eF).length = r.length * 1 := by rw [eF_map]; simp
theorem eF_one (r : List Nat) : (r.flatMap eF).all oneCell = true := by rw [eF_map, List.all_map]; simp [oneCell]


set_option maxHeartbeats 4000000 in
theorem run3 {X : Ctx} (hX : X.fns = fnsOf Try.prog) (ho : ∀ f args, f ≠ 15 → X.orc f args = none) (hw : X.orc 15 [] = some (.bool true)) {s : Mm} {mv : Value} {rows : List (List Nat)} (hT : TabE s 1 eF mv rows) (hl : rows.length ≤ 1048576) (hn : ∀ r ∈ rows, r.length ≤ 1048576) :
    CallP X 3 [mv] s (fun r _ => r = .bool true) := by
  refine CallP_of (hX ▸ ir3_eq) (ho _ _ (by decide)) (Nat.le_of_ble_eq_true rfl) ?_
  refine W_seq (W_ops [0] ?_)
  simp only [o3_0, WO_move, WO_nil, geT_put, frame_nil, frame_cons, evO_const, keep_nil, keep_cons, keepK_eq, Nat.reduceEqDiff, ↓reduceIte, eq_self, Nat.zero_add]
  intro fr e0
  refine SeqK_n ?_
  refine W_seq (W_ops [0, 3] ?_)
  simp only [o3_1, WO_move, WO_nil, geT_put, evO_const, keep_nil, keep_cons, keepK_eq, Nat.reduceEqDiff, ↓reduceIte, eq_self, e0]
  clear e0
  intro fr e0 e3
  refine SeqK_n ?_
  refine W_assoc ?_
  refine W_seq (W_ops [0, 3, 4] ?_)
  simp only [o3_2, WO_move, WO_nil, geT_put, evO_const, keep_nil, keep_cons, keepK_eq, Nat.reduceEqDiff, ↓reduceIte, eq_self, e0, e3]
  clear e0 e3
  intro fr e0 e3 e4
  refine SeqK_n ?_
  refine W_seq (W_block (W_loop (fun m fr s1 => ∃ k tv, k + m = rows.length ∧ geT fr 0 = mv ∧ geT fr 3 = tv ∧ geT fr 4 = .int .i64 (k : Nat) ∧ Hold s s1 [HP.tabL 1 eF mkF tv (rows.take k)]) rows.length ⟨0, _, by omega, e0, e3, e4, (Hold.refl s).nilL 1 eF mkF⟩ ?_))
  clear e0 e3 e4 fr
  rintro m fr s1 ⟨k, tv, hk, e0, e3, e4, H⟩
  refine W_assoc ?_
  refine W_seq (W_ops [0, 3, 4, 15] ?_)
  simp only [o3_4, WO_bin, WO_bu, WO_move, bin_lss, WO_nil, PureK_some, geT_put, evO_tmp, keep_nil, keep_cons, keepK_eq, List.map_cons, List.map_nil, Nat.reduceEqDiff, ↓reduceIte, eq_self, e0, e3, e4, (hT.same H.same).len]
  clear e0 e3 e4
  intro fr e0 e3 e4 e15
  refine SeqK_n ?_
  refine W_while e15 (fun hlt => ?_) (fun hlt => ?_)
  · have hk1 : k < rows.length := by omega
    have hnk := hn rows[k] (List.getElem_mem hk1)
    obtain ⟨c, B1, hc⟩ := hT.rowS hk1
    have hb0 : buildSlV s1 1 [.float .f64 0] 0 [] = some (.slice (some ⟨s1.nxt, 0, none⟩) 0 0, .cells [] false) := rfl
    have H1 := (H.new []).cellOwn (sz := 1) (n := 0) rfl (by decide)
    obtain ⟨A1, r1⟩ := hc _ H1.same
    obtain ⟨v1, s2, ap1, H2⟩ := H1.append (bytes := 8) r1.src (eF_len _) (eF_one _) (by omega) (by decide) (by omega) (by omega) (by omega)
    simp only [Nat.zero_add, List.nil_append] at H2
    have hb1 : buildSlV s2 1 [.float .f64 0] 1 [(0, 1, .float .f64 9094988921128908188)] = some (.slice (some ⟨s2.nxt, 0, none⟩) 1 1, .cells mkF false) := rfl
    obtain ⟨v2, s3, ap2, H3⟩ := H2.push (bytes := 8) (new := mkF) rfl rfl (by omega) (by decide) (by omega) (by omega) (by omega)
    refine W_seq (W_block ?_)
    refine W_seq (W_ops [0, 3, 4, 5] ?_)
    simp only [o3_5, WO_addrSl, WO_append, WO_buildSlice, WO_load, WO_move, WO_nil, PureK_some, MemK_some, NewK_some, geT_put, evO_tmp, evO_const, keep_nil, keep_cons, keepK_eq, List.map_cons, List.map_nil, Nat.reduceEqDiff, ↓reduceIte, eq_self, Nat.mul_one, e0, e3, e4, hb0, B1, A1, ap1, hb1, ap2]
    clear e0 e3 e4 e15
    intro fr e0 e3 e4 e5
    refine SeqK_n ?_
    obtain ⟨A3, r3⟩ := hc _ H3.same
    have hsl := (H3.own (List.mem_cons_self ..)).slc.sl0 (k2 := .i64) (j := ((rows[k].length : Nat) : Int)) rfl (Nat.le_succ _)
    have H4 := H3.lend rfl
    have hone := (H4.lent (List.mem_cons_self ..)).one (eF_len _)
    generalize subS 1 v2 0 rows[k].length = cv at hsl H4 hone
    have hb2 : buildSlV s3 1 [.slice none 0 0] 1 [(0, 1, cv)] = some (.slice (some ⟨s3.nxt, 0, none⟩) 1 1, .cells [cv] false) := buildSl_sl hone
    have H5 := (H4.new [cv]).down2
    have hsc : srcCells (newAt s3 (.cells [cv] false)) 1 (.slice (some ⟨s3.nxt, 0, none⟩) 1 1) = some (1, [cv]) :=
      ((H4.new [cv]).cellOwn (sz := 1) (n := 1) rfl (by decide)).own (List.mem_cons_self ..) |>.slc.src
    obtain ⟨tv', s4, ap3, H6⟩ := H5.pushL (bytes := 24) (r := rows[k]) rfl hone hsc (by omega) (by omega) (by rw [List.length_take]; omega)
    have hta : rows.take k ++ [rows[k]] = rows.take (k + 1) := by rw [List.take_add_one, List.getElem?_eq_getElem hk1]; rfl
    rw [hta] at H6
    refine W_ops [0, 3, 4] ?_
    simp only [o3_6, WO_addrSl, WO_append, WO_bu, WO_buildSlice, WO_load, WO_move, WO_slSl, WO_nil, PureK_some, MemK_some, NewK_some, geT_put, evO_tmp, keep_nil, keep_cons, keepK_eq, List.map_cons, List.map_nil, Option.map_some, Option.map_none, Nat.reduceEqDiff, ↓reduceIte, eq_self, Nat.mul_one, e0, e3, e4, e5, B1, A3, r3.len, hsl, hb2, ap3]
    clear e0 e3 e4 e5
    intro fr e0 e3 e4
    refine BlkK_n (SeqK_n ?_)
    refine W_ops [0, 3, 4] ?_
    simp only [o3_7, WO_bin, WO_move, bin_add, WO_nil, PureK_some, geT_put, evO_tmp, evO_const, keep_nil, keep_cons, keepK_eq, Nat.reduceEqDiff, ↓reduceIte, eq_self, e0, e3, e4, wrap_i64 (n := (k : Int) + 1) (by omega) (by omega)]
    clear e0 e3 e4
    intro fr e0 e3 e4
    exact LoopK_n (m' := m - 1) (by omega) ⟨k + 1, tv', by omega, e0, e3, by rw [e4]; rfl, H6.sub (.cons_cons _ (.cons _ (List.Sublist.refl _)))⟩
  · have hkk : k = rows.length := by omega
    subst hkk
    rw [List.take_length] at H
    refine LoopK_x (BlkK_e (SeqK_n ?_))
    have hT1 := (H.tabL (List.mem_cons_self ..) eF_len).1
    have hmo := (H.tabL (List.mem_cons_self ..) eF_len).2.1
    refine W_seq (W_ops [0, 3, 6] ?_)
    simp only [o3_8, WO_call, WO_move, geT_put, evO_tmp, List.map_cons, List.map_nil, ↓reduceIte, eq_self, e3]
    refine CallK_of (run11 hX ho (Hold.refl s1) hT1 hmo hl hn) ?_
    rintro av s2 ⟨-, g1⟩
    have H1 := H.app g1
    simp only [List.cons_append, List.nil_append] at H1
    simp only [WO_move, WO_nil, geT_put, evO_tmp, keep_nil, keep_cons, keepK_eq, Nat.reduceEqDiff, ↓reduceIte, eq_self, e0, e3]
    clear e0 e3 e4 e15
    intro fr e0 e3 e6
    refine SeqK_n ?_
    have hT2 := And.left <| H1.tabL (v := tv) (rows := rows) (mark := mkF) (e := eF) (sz := 1) (by simp) eF_len
    refine W_seq (W_ops [0, 3, 6, 7] ?_)
    simp only [o3_9, WO_call, WO_move, geT_put, evO_tmp, List.map_cons, List.map_nil, ↓reduceIte, eq_self, e3]
    refine CallK_of (run11 hX ho (Hold.refl s2) hT2 hmo hl hn) ?_
    rintro bv s3 ⟨-, g2⟩
    have H2 := H1.app g2
    simp only [List.cons_append, List.nil_append] at H2
    simp only [WO_move, WO_nil, geT_put, evO_tmp, keep_nil, keep_cons, keepK_eq, Nat.reduceEqDiff, ↓reduceIte, eq_self, e0, e3, e6]
    clear e0 e3 e6
    intro fr e0 e3 e6 e7
    refine SeqK_n ?_
    refine W_seq (W_ops [0, 3, 6, 7, 8] ?_)
    simp only [o3_10, WO_call, WO_move, geT_put, evO_tmp, List.map_cons, List.map_nil, ↓reduceIte, eq_self, e0]
    refine CallK_of (run12 hX ho H2 hT hl hn) ?_
    rintro wv s4 H3
    simp only [WO_move, WO_nil, geT_put, evO_tmp, keep_nil, keep_cons, keepK_eq, Nat.reduceEqDiff, ↓reduceIte, eq_self, e0, e3, e6, e7]
    clear e0 e3 e6 e7
    intro fr e0 e3 e6 e7 e8
    refine SeqK_n ?_
    obtain ⟨L, hL⟩ : ∃ L, L = highF rows := ⟨_, rfl⟩
    rw [← hL] at H3
    have hLl : L.length ≤ 1048576 * 1048576 := by
      have h1 := highUp_len (rows := rows) (j := rows.length)
      have h2 : L.length = (highUp rows rows.length).length := by rw [hL]; rfl
      rcases Nat.eq_zero_or_pos rows.length with h0 | h0
      · rw [h0] at h1 h2; omega
      · have hg := gates_le (rows := rows) rows[0] (List.getElem_mem h0)
        have hn0 := hn rows[0] (List.getElem_mem h0)
        have h3 : rows.length * gatesN rows ≤ 1048576 * 1048576 := Nat.mul_le_mul (by omega) (by omega)
        omega
    -- want, b, a, in
    refine W_assoc ?_
    refine W_seq (W_ops [0, 3, 6, 7, 8, 45] ?_)
    simp only [o3_11, WO_call, WO_move, geT_put, evO_tmp, List.map_cons, List.map_nil, Nat.reduceEqDiff, ↓reduceIte, eq_self, e6, e8]
    refine CallK_of (run13 hX ho (L := L) (H3.own (v := av) (by simp)).slc (H3.own (v := wv) (by simp)).slc (by omega)) ?_
    rintro _ _ ⟨rfl, rfl⟩
    simp only [WO_un, un_not, WO_nil, PureK_some, geT_put, evO_tmp, keep_nil, keep_cons, keepK_eq, Nat.reduceEqDiff, ↓reduceIte, Bool.not_true, eq_self, e0, e3, e6, e7, e8]
    clear e0 e3 e6 e7 e8
    intro fr e0 e3 e6 e7 e8 e45
    refine SeqK_n ?_
    refine W_seq (W_cond e45 (fun h => by cases h) (fun _ => W_skip (SeqK_n ?_)))
    refine W_assoc ?_
    refine W_seq (W_ops [0, 3, 6, 7, 8, 9] ?_)
    simp only [o3_13, WO_move, WO_nil, geT_put, evO_const, keep_nil, keep_cons, keepK_eq, Nat.reduceEqDiff, ↓reduceIte, eq_self, e0, e3, e6, e7, e8]
    clear e0 e3 e6 e7 e8 e45
    intro fr e0 e3 e6 e7 e8 e9
    refine SeqK_n ?_
    have H4 := H3.up2
    refine W_seq (W_block (W_loop (fun m fr s5 => ∃ i cs, i + m = L.length ∧ geT fr 0 = mv ∧ geT fr 3 = tv ∧ geT fr 6 = av ∧ geT fr 7 = bv ∧ geT fr 8 = wv ∧ geT fr 9 = .int .i64 (i : Nat) ∧
      Hold s s5 (HP.own 3 av L.length cs :: HP.own 3 wv L.length (L.flatMap eSp) :: HP.own 3 bv L.length (L.flatMap eSp) :: [HP.tabL 1 eF mkF tv rows])) L.length ⟨0, _, by omega, e0, e3, e6, e7, e8, e9, H4⟩ ?_))
    clear e0 e3 e6 e7 e8 e9 fr H H1 H2 H3 H4 g1 g2 hT1 hT2 s1 s2 s3 s4 hk hlt
    rintro m fr s1 ⟨i, cs, hi, e0, e3, e6, e7, e8, e9, H⟩
    have ow := H.own (List.mem_cons_self ..)
    refine W_assoc ?_
    refine W_seq (W_ops [0, 3, 6, 7, 8, 9, 49] ?_)
    simp only [o3_15, WO_bin, WO_bu, WO_move, bin_lss, WO_nil, PureK_some, geT_put, evO_tmp, keep_nil, keep_cons, keepK_eq, List.map_cons, List.map_nil, Nat.reduceEqDiff, ↓reduceIte, eq_self, e0, e3, e6, e7, e8, e9, ow.slc.len]
    clear e0 e3 e6 e7 e8 e9
    intro fr e0 e3 e6 e7 e8 e9 e49
    refine SeqK_n ?_
    refine W_while e49 (fun hlt => ?_) (fun hlt => ?_)
    · have hi1 : i < L.length := by omega
      have aI := ow.slc.addr (kk := .i64) (i := (i : Int)) rfl hi1
      have p0 := ow.slc.fld (by omega) (i * 3) 0
      rw [Nat.add_zero] at p0
      have hlen := ow.length
      obtain ⟨s2, st, H1⟩ := H.store (k := i * 3) (x := .int .i64 (-9)) (by omega) rfl
      refine W_seq (W_block ?_)
      refine W_ops [0, 3, 6, 7, 8, 9] ?_
      simp only [o3_16, WO_addrSl, WO_fieldAddr, WO_move, WO_store, WO_nil, PureK_some, MemK_some, geT_put, puT_none, evO_tmp, evO_const, keep_nil, keep_cons, keepK_eq, Nat.reduceEqDiff, ↓reduceIte, eq_self, e0, e3, e6, e7, e8, e9, aI, p0, st]
      clear e0 e3 e6 e7 e8 e9 e49
      intro fr e0 e3 e6 e7 e8 e9
      refine BlkK_n (SeqK_n ?_)
      refine W_ops [0, 3, 6, 7, 8, 9] ?_
      simp only [o3_17, WO_bin, WO_move, bin_add, WO_nil, PureK_some, geT_put, evO_tmp, evO_const, keep_nil, keep_cons, keepK_eq, Nat.reduceEqDiff, ↓reduceIte, eq_self, e0, e3, e6, e7, e8, e9, wrap_i64 (n := (i : Int) + 1) (by omega) (by omega)]
      clear e0 e3 e6 e7 e8 e9
      intro fr e0 e3 e6 e7 e8 e9
      exact LoopK_n (m' := m - 1) (by omega) ⟨i + 1, _, by omega, e0, e3, e6, e7, e8, by rw [e9]; rfl, H1⟩
    · refine LoopK_x (BlkK_e (SeqK_n ?_))
      refine W_assoc ?_
      refine W_seq (W_ops [0, 3, 6, 7, 8, 10] ?_)
      simp only [o3_18, WO_move, WO_nil, geT_put, evO_const, keep_nil, keep_cons, keepK_eq, Nat.reduceEqDiff, ↓reduceIte, eq_self, e0, e3, e6, e7, e8]
      clear e0 e3 e6 e7 e8 e9 e49
      intro fr e0 e3 e6 e7 e8 e10
      refine SeqK_n ?_
      refine W_seq (W_block (W_loop (fun m fr s5 => ∃ i av cs, i + m = 9 ∧ geT fr 0 = mv ∧ geT fr 3 = tv ∧ geT fr 6 = av ∧ geT fr 7 = bv ∧ geT fr 8 = wv ∧ geT fr 10 = .int .i64 (i : Nat) ∧
        Hold s s5 (HP.own 3 av (L.length + i) cs :: HP.own 3 wv L.length (L.flatMap eSp) :: HP.own 3 bv L.length (L.flatMap eSp) :: [HP.tabL 1 eF mkF tv rows])) 9 ⟨0, av, cs, by omega, e0, e3, e6, e7, e8, e10, H⟩ ?_))
      clear e0 e3 e6 e7 e8 e10 fr H ow s1 hi hlt av cs
      rintro m fr s1 ⟨i, av, cs, hi, e0, e3, e6, e7, e8, e10, H⟩
      refine W_assoc ?_
      refine W_seq (W_ops [0, 3, 6, 7, 8, 10, 57] ?_)
      simp only [o3_20, WO_bin, WO_move, bin_lss, WO_nil, PureK_some, geT_put, evO_tmp, evO_const, keep_nil, keep_cons, keepK_eq, Nat.reduceEqDiff, ↓reduceIte, eq_self, e0, e3, e6, e7, e8, e10]
      clear e0 e3 e6 e7 e8 e10
      intro fr e0 e3 e6 e7 e8 e10 e57
      refine SeqK_n ?_
      refine W_while e57 (fun hlt => ?_) (fun hlt => ?_)
      · have hbu : buildV [.int .i64 0, .int .i64 0, .float .f64 0] [(0, 1, .int .i64 (-8))] = some (.agg #[.int .i64 (-8), .int .i64 0, .float .f64 0]) := rfl
        have hbs : buildSlV s1 3 [.int .i64 0, .int .i64 0, .float .f64 0] 1 [(0, 3, .agg #[.int .i64 (-8), .int .i64 0, .float .f64 0])] = some (.slice (some ⟨s1.nxt, 0, none⟩) 1 1, .cells [.int .i64 (-8), .int .i64 0, .float .f64 0] false) := rfl
        obtain ⟨av', s2, ap, H1⟩ := H.push (bytes := 24) (new := [.int .i64 (-8), .int .i64 0, .float .f64 0]) rfl rfl (by omega) (by decide) (by omega) (by omega) (by omega)
        refine W_seq (W_block ?_)
        refine W_ops [0, 3, 6, 7, 8, 10] ?_
        simp only [o3_21, WO_append, WO_build, WO_buildSlice, WO_move, WO_nil, PureK_some, MemK_some, NewK_some, geT_put, evO_tmp, evO_const, keep_nil, keep_cons, keepK_eq, List.map_cons, List.map_nil, Nat.reduceEqDiff, ↓reduceIte, eq_self, Nat.zero_mul, e0, e3, e6, e7, e8, e10, hbu, hbs, ap]
        clear e0 e3 e6 e7 e8 e10 e57
        intro fr e0 e3 e6 e7 e8 e10
        refine BlkK_n (SeqK_n ?_)
        refine W_ops [0, 3, 6, 7, 8, 10] ?_
        simp only [o3_22, WO_bin, WO_move, bin_add, WO_nil, PureK_some, geT_put, evO_tmp, evO_const, keep_nil, keep_cons, keepK_eq, Nat.reduceEqDiff, ↓reduceIte, eq_self, e0, e3, e6, e7, e8, e10, wrap_i64 (n := (i : Int) + 1) (by omega) (by omega)]
        clear e0 e3 e6 e7 e8 e10
        intro fr e0 e3 e6 e7 e8 e10
        exact LoopK_n (m' := m - 1) (by omega) ⟨i + 1, av', _, by omega, e0, e3, e6, e7, e8, by rw [e10]; rfl, H1⟩
      · have hi9 : i = 9 := by omega
        subst hi9
        refine LoopK_x (BlkK_e (SeqK_n ?_))
        refine W_assoc ?_
        refine W_seq (W_ops [0, 3, 6, 7, 8, 11] ?_)
        simp only [o3_23, WO_move, WO_nil, geT_put, evO_const, keep_nil, keep_cons, keepK_eq, Nat.reduceEqDiff, ↓reduceIte, eq_self, e0, e3, e6, e7, e8]
        clear e0 e3 e6 e7 e8 e10 e57
        intro fr e0 e3 e6 e7 e8 e11
        refine SeqK_n ?_
        obtain ⟨hT1, _, hLe⟩ := H.tabL (v := tv) (rows := rows) (mark := mkF) (e := eF) (sz := 1) (by simp) eF_len
        have hT2 := hT.same H.same
        refine W_seq (W_block (W_loop (fun m fr s5 => ∃ i, i + m = rows.length ∧ s1 = s5 ∧ geT fr 0 = mv ∧ geT fr 3 = tv ∧ geT fr 6 = av ∧ geT fr 7 = bv ∧ geT fr 8 = wv ∧ geT fr 11 = .int .i64 (i : Nat)) rows.length ⟨0, by omega, rfl, e0, e3, e6, e7, e8, e11⟩ ?_))
        clear e0 e3 e6 e7 e8 e11 fr
        rintro m fr _ ⟨i, hi, rfl, e0, e3, e6, e7, e8, e11⟩
        refine W_assoc ?_
        refine W_seq (W_ops [0, 3, 6, 7, 8, 11, 67] ?_)
        simp only [o3_25, WO_bin, WO_bu, WO_move, bin_lss, WO_nil, PureK_some, geT_put, evO_tmp, keep_nil, keep_cons, keepK_eq, List.map_cons, List.map_nil, Nat.reduceEqDiff, ↓reduceIte, eq_self, e0, e3, e6, e7, e8, e11, hT1.len]
        clear e0 e3 e6 e7 e8 e11
        intro fr e0 e3 e6 e7 e8 e11 e67
        refine SeqK_n ?_
        refine W_while e67 (fun hlt => ?_) (fun hlt => ?_)
        · have hi1 : i < rows.length := by omega
          have hni := hn rows[i] (List.getElem_mem hi1)
          obtain ⟨c, A1, Le⟩ := hLe i hi1
          obtain ⟨c', B2, A2, r2⟩ := hT2.row hi1
          obtain ⟨c'', B1, A1', _⟩ := hT1.row hi1
          obtain ⟨room, hsl, r3⟩ := Le.mark (k := .i64) (i := ((rows[i].length : Nat) : Int) + 1) rfl
          have B3 := r3.addr (kk := .i64) (i := ((rows[i].length : Nat) : Int)) rfl (Nat.lt_succ_self _)
          rw [Nat.mul_one] at B3
          have A3 : loadV s1 none (elP room rows[i].length) = some (.float .f64 9094988921128908188) := by
            refine r3.load ?_
            rw [List.getElem?_append_right (by rw [eF_len]; omega), eF_len, Nat.mul_one, Nat.sub_self]; rfl
          have hq : (ford .f64 9094988921128908188 9094988921128908188 == some .eq) = true := by decide +kernel
          refine W_seq (W_block ?_)
          refine W_seq (W_draw0 [0, 3, 6, 7, 8, 11, 88] rfl ?_)
          simp only [d3_26, WD_addrSl, WD_bin, WD_bu, WD_load, WD_move, WD_slSl, bin_add, binf_neq, WD_nil, DPureK_some, DReadK_some, pastR_nil, joinAll_nil, setH_self, geT_put, evO_tmp, evO_const, keep_nil, keep_cons, keepK_eq, List.map_cons, List.map_nil, Option.map_some, Option.map_none, Nat.reduceEqDiff, Nat.reduceAdd, ↓reduceIte, Bool.not_true, eq_self, true_and, Nat.zero_add, e0, e3, e6, e7, e8, e11, B1, A1, B2, A2, r2.len, wrap_i64 (n := ((rows[i].length : Nat) : Int) + 1) (by omega) (by omega), hsl, B3, A3, hq]
          clear e0 e3 e6 e7 e8 e11 e67
          intro fr e0 e3 e6 e7 e8 e11 e88
          refine SeqK_n ?_
          refine W_cond e88 (fun h => by cases h) (fun _ => W_skip (BlkK_n (SeqK_n ?_)))
          refine W_ops [0, 3, 6, 7, 8, 11] ?_
          simp only [o3_28, WO_bin, WO_move, bin_add, WO_nil, PureK_some, geT_put, evO_tmp, evO_const, keep_nil, keep_cons, keepK_eq, Nat.reduceEqDiff, ↓reduceIte, eq_self, e0, e3, e6, e7, e8, e11, wrap_i64 (n := (i : Int) + 1) (by omega) (by omega)]
          clear e0 e3 e6 e7 e8 e11 e88
          intro fr e0 e3 e6 e7 e8 e11
          exact LoopK_n (m' := m - 1) (by omega) ⟨i + 1, by omega, rfl, e0, e3, e6, e7, e8, by rw [e11]; rfl⟩
        · refine LoopK_x (BlkK_e (SeqK_n ?_))
          have la := (H.own (v := av) (List.mem_cons_self ..)).slc.len
          have lw := (H.own (v := wv) (n := L.length) (cs := L.flatMap eSp) (sz := 3) (by simp)).slc.len
          have hnn : decide (((L.length + 9 : Nat) : Int) = ((L.length : Nat) : Int) + 9) = true := decide_eq_true (by omega)
          refine W_seq (W_ops [2] ?_)
          simp only [o3_29, WO_call, WO_move, geT_put, evO_tmp, List.map_cons, List.map_nil, Nat.reduceEqDiff, ↓reduceIte, eq_self, e7, e8]
          refine CallK_of (run13 hX ho (L := L) (H.own (v := bv) (by simp)).slc (H.own (v := wv) (by simp)).slc (by omega)) ?_
          rintro _ _ ⟨rfl, rfl⟩
          simp only [WO_call, WO_move, WO_guard, want_v, wantB_t, geT_put, evO_tmp, List.map_cons, List.map_nil, Nat.reduceEqDiff, ↓reduceIte, eq_self, e0, e3]
          refine CallK_of (run14 hX ho hT1 hT2 (by omega) (fun r hr => by have := hn r hr; omega)) ?_
          rintro _ _ ⟨rfl, rfl⟩
          simp only [WO_bin, WO_bu, WO_call, WO_move, WO_pick, pick_b, bin_add, bin_eql, PureK_some, WO_guard, want_v, wantB_t, geT_put, evO_tmp, evO_const, List.map_cons, List.map_nil, Nat.reduceEqDiff, ↓reduceIte, eq_self, e6, e8, la, lw, wrap_i64 (n := ((L.length : Nat) : Int) + 9) (by omega) (by omega), hnn]
          refine CallK_eq (Call_orc hw) ?_
          simp only [WO_move, WO_pick, pick_b, WO_nil, PureK_some, geT_put, evO_tmp, evO_const, keep_nil, keep_cons, keepK_eq, Nat.reduceEqDiff, ↓reduceIte, eq_self]
          clear e0 e3 e6 e7 e8 e11 e67
          intro fr e2
          refine SeqK_n ?_
          exact W_ret (Ret1 e2 rfl)

end Go.Proofs.Ytpphomoijlilfaa

/- PeaksHighest: its run at any arguments of no great bulk. -/
namespace Go.Proofs.Ytpphomoijlilfaa
open Go Go.Vam

set_option maxRecDepth 100000 in
theorem runPeaksHighest {T : Type} {s : Mm} {avs : List Value} {ds : List (DataW T)} (hs : Lt s) (h : AbsL Try.prog s [22] avs ds) (hk : Rows.uptoBulkAll ds ≤ 1048576) : CallP ⟨orcW 15, fnsOf Try.prog⟩ 3 avs s (fun v _ => v = .bool true) := by
  obtain ⟨v0, vs, d0, ds, rfl, rfl, h0, h⟩ := AbsL.cons h
  obtain ⟨rfl, rfl⟩ := AbsL.nil h
  obtain ⟨rows, g1, _, g3, g4, _⟩ := map_open hs h0
  have hb := bulkAll_mem [d0] d0 (by simp)
  exact run3 (X := ⟨orcW 15, fnsOf Try.prog⟩) rfl (fun f args hf => orcW_other hf args) (orcW_self 15) g1 (by omega) (fun r hr => by have := g4 r hr; omega)

end Go.Proofs.Ytpphomoijlilfaa
