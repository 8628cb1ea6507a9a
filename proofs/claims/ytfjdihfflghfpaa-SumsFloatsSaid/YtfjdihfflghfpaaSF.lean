/- SumsFloats: plain sums and comparisons, walked. -/
import Derived.SizedLaws
import Derived.Test.YtfjdihfflghfpaaSE
namespace Go.Proofs.Ytfjdihfflghfpaa
open Go Go.Vam Go.Sort

def sumQ (d : Array UInt64) : Nat → Nat
  | 0 => 0
  | 1 => (d[0]!).toNat
  | k + 2 => fadd .f64 (sumQ d (k + 1)) (d[k + 1]!).toNat
theorem sumQ_succ {d : Array UInt64} {k : Nat} (h : 0 < k) : sumQ d (k + 1) = fadd .f64 (sumQ d k) (d[k]!).toNat := by
  cases k with
  | zero => omega
  | succ k => rfl

theorem bits_nn2 {x : Nat} (h : (ford .f64 x x == some .eq) = true) : extV 0 [.float .f64 x] = some (.int .u64 (x : Nat)) := by
  show (if fknown .f64 x then some (Value.int .u64 (x : Nat)) else none) = _
  have hk : fknown .f64 x = true := by
    unfold fknown
    rw [bne_iff_ne]
    rintro rfl
    have : (ford .f64 (nanF .f64) (nanF .f64) == some .eq) = false := by decide
    rw [this] at h; cases h
  rw [hk]; rfl


theorem same_self {X : Ctx} (hX : X.fns = fnsOf Try.prog) (ho : ∀ f args, f ≠ 10 ∧ f ≠ 24 → X.orc f args = none) {s : Mm} {x : Nat} : CallP X 14 [.float .f64 x, .float .f64 x] s (fun r s' => r = .bool true ∧ s = s') := by
  refine CallP_of (hX ▸ ir14_eq) (ho _ _ (by decide)) (Nat.le_of_ble_eq_true rfl) ?_
  refine W_seq (W_ops [0, 1] ?_)
  simp only [o14_0, WO_move, WO_nil, geT_put, frame_nil, frame_cons, evO_const, keep_nil, keep_cons, keepK_eq, Nat.reduceEqDiff, Nat.reduceAdd, ↓reduceIte, eq_self, Nat.zero_add]
  intro fr e0 e1
  refine SeqK_n ?_
  refine W_assoc ?_
  cases h : (ford .f64 x x == some .eq) with
  | true =>
    have hb := bits_nn2 h
    refine W_seq (W_ops [0, 1, 12] ?_)
    simp only [o14_1, WO_bin, WO_move, WO_pick, pick_b, binf_neq, WO_nil, PureK_some, WO_guard, want_v, wantB_f, geT_put, evO_tmp, evO_const, keep_nil, keep_cons, keepK_eq, Nat.reduceEqDiff, ↓reduceIte, Bool.not_true, Bool.not_false, eq_self, Bool.false_eq_true, e0, e1, binf_neq, h]
    clear e0 e1
    intro fr e0 e1 e12
    refine SeqK_n ?_
    refine W_seq (W_cond e12 (fun h => by cases h) (fun _ => W_skip (SeqK_n ?_)))
    refine W_seq (W_ops [4] ?_)
    simp only [o14_3, WO_bin, WO_ext, WO_move, bin_eql, WO_nil, PureK_some, geT_put, evO_tmp, keep_nil, keep_cons, keepK_eq, List.map_cons, List.map_nil, Nat.reduceEqDiff, ↓reduceIte, decide_true, eq_self, e0, e1, WO_ext, hb]
    clear e0 e1 e12
    intro fr e4
    refine SeqK_n ?_
    exact W_ret (Ret1 e4 ⟨rfl, rfl⟩)
  | false =>
    refine W_seq (W_ops [0, 1, 12] ?_)
    simp only [o14_1, WO_bin, WO_move, WO_pick, pick_b, binf_neq, WO_nil, PureK_some, WO_guard, want_v, wantB_f, geT_put, evO_tmp, evO_const, keep_nil, keep_cons, keepK_eq, Nat.reduceEqDiff, ↓reduceIte, Bool.not_true, Bool.not_false, eq_self, Bool.false_eq_true, e0, e1, binf_neq, h]
    clear e0 e1
    intro fr e0 e1 e12
    refine SeqK_n ?_
    refine W_seq (W_cond e12 (fun _ => ?_) (fun h => by cases h))
    refine W_seq (W_ops [4] ?_)
    simp only [o14_2, WO_bin, WO_move, WO_pick, pick_b, binf_neq, WO_nil, PureK_some, WO_guard, want_v, wantB_t, geT_put, evO_tmp, evO_const, keep_nil, keep_cons, keepK_eq, Nat.reduceEqDiff, ↓reduceIte, Bool.not_false, eq_self, e0, e1, binf_neq, h]
    clear e0 e1 e12
    intro fr e4
    refine SeqK_n ?_
    exact W_ret (SeqK_r (Ret1 e4 ⟨rfl, rfl⟩))

theorem run18 {X : Ctx} (hX : X.fns = fnsOf Try.prog) (ho : ∀ f args, f ≠ 10 ∧ f ≠ 24 → X.orc f args = none) {s : Mm} {v : Value} {d : Array UInt64} (a : SlC s 1 v d.size (flA d)) (hn : d.size ≤ 4611686018427387904) : CallP X 18 [v] s (fun r s' => r = .float .f64 (sumQ d d.size) ∧ s = s') := by
  have d0 : decide (((d.size : Nat) : Int) = 0) = decide (d.size = 0) := decide_eq_decide.2 (by omega)
  refine CallP_of (hX ▸ ir18_eq) (ho _ _ (by decide)) (Nat.le_of_ble_eq_true rfl) ?_
  refine W_seq (W_ops [0] ?_)
  simp only [o18_0, WO_move, WO_nil, geT_put, frame_nil, frame_cons, evO_const, keep_nil, keep_cons, keepK_eq, Nat.reduceEqDiff, ↓reduceIte, eq_self, Nat.zero_add]
  intro fr e0
  refine SeqK_n ?_
  refine W_assoc ?_
  refine W_seq (W_ops [0, 8] ?_)
  simp only [o18_1, WO_bin, WO_bu, WO_move, bin_eql, WO_nil, PureK_some, geT_put, evO_tmp, evO_const, keep_nil, keep_cons, keepK_eq, List.map_cons, List.map_nil, Nat.reduceEqDiff, ↓reduceIte, eq_self, e0, a.len, d0]
  clear e0
  intro fr e0 e8
  refine SeqK_n ?_
  refine W_seq (W_if e8 (fun h0 => ?_) (fun h0 => W_skip (SeqK_n ?_)))
  · refine W_seq (W_ops [2] ?_)
    simp only [o18_2, WO_move, WO_nil, geT_put, evO_const, keep_nil, keep_cons, keepK_eq, ↓reduceIte, eq_self]
    clear e0 e8
    intro fr e2
    refine SeqK_n ?_
    rw [h0]
    exact W_ret (SeqK_r (Ret1 e2 ⟨rfl, rfl⟩))
  have A0 : addrSlV 1 v (.int .i64 0) = some (elP v 0) := a.addr (kk := .i64) (i := 0) (k := 0) rfl (by omega)
  have L0 : loadV s none (elP v 0) = some (.float .f64 (d[0]!).toNat) := a.load (flA_get (by omega))
  refine W_seq (W_ops [0, 3] ?_)
  simp only [o18_3, WO_addrSl, WO_load, WO_move, WO_nil, PureK_some, geT_put, evO_tmp, evO_const, keep_nil, keep_cons, keepK_eq, Nat.reduceEqDiff, ↓reduceIte, eq_self, e0, A0, L0]
  clear e0 e8
  intro fr e0 e3
  refine SeqK_n ?_
  have hsl := a.slE (k1 := .i64) (i := 1) (l := 1) rfl (by omega)
  have a1 := a.sub (l := 1) (h := d.size) (by omega) (Nat.le_refl _)
  generalize subS 1 v 1 d.size = w at hsl a1
  have hlw := a1.len
  refine W_assoc ?_
  refine W_seq (W_ops [3, 13, 14, 15] ?_)
  simp only [o18_4, WO_bu, WO_move, WO_slSl, WO_nil, PureK_some, geT_put, evO_tmp, evO_const, keep_nil, keep_cons, keepK_eq, List.map_cons, List.map_nil, Option.map_some, Option.map_none, Nat.reduceEqDiff, ↓reduceIte, eq_self, e0, e3, hsl, hlw]
  clear e0 e3
  intro fr e3 e13 e14 e15
  refine SeqK_n ?_
  refine W_seq (W_block (W_loop (fun m fr s1 => ∃ k, k + m = d.size ∧ 1 ≤ k ∧ s = s1 ∧ geT fr 3 = .float .f64 (sumQ d k) ∧ geT fr 13 = w ∧ geT fr 14 = .int .i64 ((d.size - 1 : Nat) : Int) ∧ geT fr 15 = .int .i64 ((k - 1 : Nat) : Int)) (d.size - 1) ⟨1, by omega, by omega, rfl, e3, e13, e14, e15⟩ ?_))
  clear e3 e13 e14 e15 fr
  rintro m fr _ ⟨k, hk, hk1, rfl, e3, e13, e14, e15⟩
  refine W_seq (W_ops [3, 13, 14, 15, 16] ?_)
  simp only [o18_6, WO_bin, bin_lss, WO_nil, PureK_some, geT_put, evO_tmp, keep_nil, keep_cons, keepK_eq, Nat.reduceEqDiff, ↓reduceIte, eq_self, e3, e13, e14, e15]
  clear e3 e13 e14 e15
  intro fr e3 e13 e14 e15 e16
  refine SeqK_n ?_
  refine W_while e16 (fun hlt => ?_) (fun hlt => ?_)
  · have hkd : k < d.size := by omega
    have A1 := a1.addr (kk := .i64) (i := ((k - 1 : Nat) : Int)) rfl (show k - 1 < d.size - 1 by omega)
    rw [Nat.mul_one] at A1
    have L1 : loadV s none (elP w (k - 1)) = some (.float .f64 (d[k]!).toNat) := a1.load (by
      rw [List.getElem?_take_of_lt (by omega), List.getElem?_drop]
      have : 1 * 1 + (k - 1) = k := by omega
      rw [this]; exact flA_get hkd)
    refine W_seq (W_block ?_)
    refine W_seq (W_ops [3, 5, 13, 14, 15] ?_)
    simp only [o18_7, WO_addrSl, WO_load, WO_move, WO_nil, PureK_some, geT_put, evO_tmp, keep_nil, keep_cons, keepK_eq, Nat.reduceEqDiff, ↓reduceIte, eq_self, e3, e13, e14, e15, A1, L1]
    clear e3 e13 e14 e15 e16
    intro fr e3 e5 e13 e14 e15
    refine SeqK_n ?_
    refine W_ops [3, 13, 14, 15] ?_
    simp only [o18_8, WO_bin, WO_move, binf_add, WO_nil, PureK_some, geT_put, evO_tmp, keep_nil, keep_cons, keepK_eq, Nat.reduceEqDiff, ↓reduceIte, eq_self, e3, e5, e13, e14, e15]
    clear e3 e5 e13 e14 e15
    intro fr e3 e13 e14 e15
    refine BlkK_n (SeqK_n ?_)
    refine W_ops [3, 13, 14, 15] ?_
    simp only [o18_9, WO_bin, WO_move, bin_add, WO_nil, PureK_some, geT_put, evO_tmp, evO_const, keep_nil, keep_cons, keepK_eq, Nat.reduceEqDiff, ↓reduceIte, eq_self, e3, e13, e14, e15, wrap_i64 (n := ((k - 1 : Nat) : Int) + 1) (by omega) (by omega)]
    clear e3 e13 e14 e15
    intro fr e3 e13 e14 e15
    exact LoopK_n (m' := m - 1) (by omega) ⟨k + 1, by omega, by omega, rfl, by rw [e3, sumQ_succ (by omega)], e13, e14, e15.trans (congrArg (Value.int .i64) (by omega))⟩
  · have hkn : k = d.size := by omega
    subst hkn
    refine LoopK_x (BlkK_e (SeqK_n ?_))
    refine W_seq (W_ops [2] ?_)
    simp only [o18_10, WO_move, WO_nil, geT_put, evO_tmp, keep_nil, keep_cons, keepK_eq, ↓reduceIte, eq_self, e3]
    clear e3 e13 e14 e15 e16
    intro fr e2
    refine SeqK_n ?_
    exact W_ret (Ret1 e2 ⟨rfl, rfl⟩)

theorem run19 {X : Ctx} (hX : X.fns = fnsOf Try.prog) (ho : ∀ f args, f ≠ 10 ∧ f ≠ 24 → X.orc f args = none) {s : Mm} {v : Value} {d : Array UInt64} (a : SlC s 1 v d.size (flA d)) (hn : d.size ≤ 4611686018427387904) : CallP X 19 [v] s (fun r s' => r = .float .f64 (sumQ d d.size) ∧ s = s') := by
  have d0 : decide (((d.size : Nat) : Int) = 0) = decide (d.size = 0) := decide_eq_decide.2 (by omega)
  refine CallP_of (hX ▸ ir19_eq) (ho _ _ (by decide)) (Nat.le_of_ble_eq_true rfl) ?_
  refine W_seq (W_ops [0] ?_)
  simp only [o19_0, WO_move, WO_nil, geT_put, frame_nil, frame_cons, evO_const, keep_nil, keep_cons, keepK_eq, Nat.reduceEqDiff, ↓reduceIte, eq_self, Nat.zero_add]
  intro fr e0
  refine SeqK_n ?_
  refine W_assoc ?_
  refine W_seq (W_ops [0, 7] ?_)
  simp only [o19_1, WO_bin, WO_bu, WO_move, bin_eql, WO_nil, PureK_some, geT_put, evO_tmp, evO_const, keep_nil, keep_cons, keepK_eq, List.map_cons, List.map_nil, Nat.reduceEqDiff, ↓reduceIte, eq_self, e0, a.len, d0]
  clear e0
  intro fr e0 e7
  refine SeqK_n ?_
  refine W_seq (W_if e7 (fun h0 => ?_) (fun h0 => W_skip (SeqK_n ?_)))
  · refine W_seq (W_ops [2] ?_)
    simp only [o19_2, WO_move, WO_nil, geT_put, evO_const, keep_nil, keep_cons, keepK_eq, ↓reduceIte, eq_self]
    clear e0 e7
    intro fr e2
    refine SeqK_n ?_
    rw [h0]
    exact W_ret (SeqK_r (Ret1 e2 ⟨rfl, rfl⟩))
  have A0 : addrSlV 1 v (.int .i64 0) = some (elP v 0) := a.addr (kk := .i64) (i := 0) (k := 0) rfl (by omega)
  have L0 : loadV s none (elP v 0) = some (.float .f64 (d[0]!).toNat) := a.load (flA_get (by omega))
  refine W_seq (W_ops [0, 3] ?_)
  simp only [o19_3, WO_addrSl, WO_load, WO_move, WO_nil, PureK_some, geT_put, evO_tmp, evO_const, keep_nil, keep_cons, keepK_eq, Nat.reduceEqDiff, ↓reduceIte, eq_self, e0, A0, L0]
  clear e0 e7
  intro fr e0 e3
  refine SeqK_n ?_
  refine W_assoc ?_
  refine W_seq (W_ops [0, 3, 4] ?_)
  simp only [o19_4, WO_move, WO_nil, geT_put, evO_const, keep_nil, keep_cons, keepK_eq, Nat.reduceEqDiff, ↓reduceIte, eq_self, e0, e3]
  clear e0 e3
  intro fr e0 e3 e4
  refine SeqK_n ?_
  refine W_seq (W_block (W_loop (fun m fr s1 => ∃ k, k + m = d.size ∧ 1 ≤ k ∧ s = s1 ∧ geT fr 0 = v ∧ geT fr 3 = .float .f64 (sumQ d k) ∧ geT fr 4 = .int .i64 (k : Nat)) (d.size - 1) ⟨1, by omega, by omega, rfl, e0, e3, e4⟩ ?_))
  clear e0 e3 e4 fr
  rintro m fr _ ⟨k, hk, hk1, rfl, e0, e3, e4⟩
  refine W_assoc ?_
  refine W_seq (W_ops [0, 3, 4, 14] ?_)
  simp only [o19_6, WO_bin, WO_bu, WO_move, bin_lss, WO_nil, PureK_some, geT_put, evO_tmp, keep_nil, keep_cons, keepK_eq, List.map_cons, List.map_nil, Nat.reduceEqDiff, ↓reduceIte, eq_self, e0, e3, e4, a.len]
  clear e0 e3 e4
  intro fr e0 e3 e4 e14
  refine SeqK_n ?_
  refine W_while e14 (fun hlt => ?_) (fun hlt => ?_)
  · have hkd : k < d.size := by omega
    have A1 := a.addr (kk := .i64) (i := (k : Int)) rfl hkd
    rw [Nat.mul_one] at A1
    have L1 := a.load (flA_get hkd)
    refine W_seq (W_block ?_)
    refine W_ops [0, 3, 4] ?_
    simp only [o19_7, WO_addrSl, WO_bin, WO_load, WO_move, binf_add, WO_nil, PureK_some, geT_put, evO_tmp, keep_nil, keep_cons, keepK_eq, Nat.reduceEqDiff, ↓reduceIte, eq_self, e0, e3, e4, A1, L1]
    clear e0 e3 e4 e14
    intro fr e0 e3 e4
    refine BlkK_n (SeqK_n ?_)
    refine W_ops [0, 3, 4] ?_
    simp only [o19_8, WO_bin, WO_move, bin_add, WO_nil, PureK_some, geT_put, evO_tmp, evO_const, keep_nil, keep_cons, keepK_eq, Nat.reduceEqDiff, ↓reduceIte, eq_self, e0, e3, e4, wrap_i64 (n := (k : Int) + 1) (by omega) (by omega)]
    clear e0 e3 e4
    intro fr e0 e3 e4
    exact LoopK_n (m' := m - 1) (by omega) ⟨k + 1, by omega, by omega, rfl, e0, by rw [e3, sumQ_succ (by omega)], by rw [e4]; rfl⟩
  · have hkn : k = d.size := by omega
    subst hkn
    refine LoopK_x (BlkK_e (SeqK_n ?_))
    refine W_seq (W_ops [2] ?_)
    simp only [o19_9, WO_move, WO_nil, geT_put, evO_tmp, keep_nil, keep_cons, keepK_eq, ↓reduceIte, eq_self, e3]
    clear e0 e3 e4 e14
    intro fr e2
    refine SeqK_n ?_
    exact W_ret (Ret1 e2 ⟨rfl, rfl⟩)

theorem run22 {X : Ctx} (hX : X.fns = fnsOf Try.prog) (ho : ∀ f args, f ≠ 10 ∧ f ≠ 24 → X.orc f args = none) {s : Mm} {v v' : Value} {d : Array UInt64} (a1 : SlC s 1 v d.size (flA d)) (a2 : SlC s 1 v' d.size (flA d)) (hl : d.size ≤ 4611686018427387904) :
    CallP X 22 [v, v'] s (fun r s' => r = .bool true ∧ s = s') := by
  refine CallP_of (hX ▸ ir22_eq) (ho _ _ (by decide)) (Nat.le_of_ble_eq_true rfl) ?_
  refine W_seq (W_ops [0, 1] ?_)
  simp only [o22_0, WO_move, WO_nil, geT_put, frame_nil, frame_cons, evO_const, keep_nil, keep_cons, keepK_eq, Nat.reduceEqDiff, Nat.reduceAdd, ↓reduceIte, eq_self, Nat.zero_add]
  intro fr e0 e1
  refine SeqK_n ?_
  refine W_assoc ?_
  refine W_seq (W_ops [0, 1, 11] ?_)
  simp only [o22_1, WO_bin, WO_bu, WO_move, bin_neq, WO_nil, PureK_some, geT_put, evO_tmp, keep_nil, keep_cons, keepK_eq, List.map_cons, List.map_nil, Nat.reduceEqDiff, ↓reduceIte, Bool.not_true, decide_true, eq_self, e0, e1, a1.len, a2.len]
  clear e0 e1
  intro fr e0 e1 e11
  refine SeqK_n ?_
  refine W_seq (W_cond e11 (fun h => by cases h) (fun _ => W_skip (SeqK_n ?_)))
  refine W_assoc ?_
  refine W_seq (W_ops [0, 1, 5] ?_)
  simp only [o22_3, WO_move, WO_nil, geT_put, evO_const, keep_nil, keep_cons, keepK_eq, Nat.reduceEqDiff, ↓reduceIte, eq_self, e0, e1]
  clear e0 e1 e11
  intro fr e0 e1 e5
  refine SeqK_n ?_
  refine W_seq (W_block (W_loop (fun m fr s1 => ∃ k, k + m = d.size ∧ s = s1 ∧ geT fr 0 = v ∧ geT fr 1 = v' ∧ geT fr 5 = .int .i64 (k : Nat)) d.size ⟨0, by omega, rfl, e0, e1, e5⟩ ?_))
  clear e0 e1 e5 fr
  rintro m fr _ ⟨k, hk, rfl, e0, e1, e5⟩
  refine W_assoc ?_
  refine W_seq (W_ops [0, 1, 5, 15] ?_)
  simp only [o22_5, WO_bin, WO_bu, WO_move, bin_lss, WO_nil, PureK_some, geT_put, evO_tmp, keep_nil, keep_cons, keepK_eq, List.map_cons, List.map_nil, Nat.reduceEqDiff, ↓reduceIte, eq_self, e0, e1, e5, a1.len]
  clear e0 e1 e5
  intro fr e0 e1 e5 e15
  refine SeqK_n ?_
  refine W_while e15 (fun hlt => ?_) (fun hlt => ?_)
  · have hk1 : k < d.size := by omega
    have q1 := a1.addr (kk := .i64) (i := (k : Int)) rfl hk1
    have q2 := a2.addr (kk := .i64) (i := (k : Int)) rfl hk1
    rw [Nat.mul_one] at q1 q2
    have l0 := a1.load (flA_get hk1)
    have m0 := a2.load (flA_get hk1)
    refine W_seq (W_block ?_)
    refine W_seq (W_draw0 [0, 1, 5, 6] rfl ?_)
    simp only [d22_6, WD_addrSl, WD_call, WD_load, WD_move, DPureK_some, DReadK_some, pastR_nil, joinF_nil, setH_self, geT_put, evO_tmp, List.map_cons, List.map_nil, Nat.reduceEqDiff, Nat.reduceAdd, ↓reduceIte, eq_self, true_and, Nat.zero_add, e0, e1, e5, q1, q2, l0, m0]
    refine DCallK_of rfl (same_self hX ho) ?_
    rintro _ _ ⟨rfl, rfl⟩
    simp only [WD_move, WD_nil, DPureK_some, joinF_nil, joinAll_nil, setH_self, Nat.testBit, Nat.reduceShiftRight, Nat.reduceAnd, Nat.reduceBneDiff, List.all_nil, List.all_cons, List.filter_nil, List.filter_cons, geT_put, evO_tmp, keep_nil, keep_cons, keepK_eq, Nat.reduceEqDiff, Nat.reduceAdd, ↓reduceIte, Bool.not_true, Bool.and_true, Bool.true_or, eq_self, Bool.false_eq_true, true_and, e0, e1, e5]
    clear e0 e1 e5 e15
    intro fr e0 e1 e5 e6
    refine SeqK_n ?_
    refine W_seq (W_ops [0, 1, 5, 28] ?_)
    simp only [o22_7, WO_move, WO_un, un_not, WO_nil, PureK_some, geT_put, evO_tmp, keep_nil, keep_cons, keepK_eq, Nat.reduceEqDiff, ↓reduceIte, Bool.not_true, eq_self, e0, e1, e5, e6]
    clear e0 e1 e5 e6
    intro fr e0 e1 e5 e28
    refine SeqK_n ?_
    refine W_cond e28 (fun h => by cases h) (fun _ => W_skip (BlkK_n (SeqK_n ?_)))
    refine W_ops [0, 1, 5] ?_
    simp only [o22_9, WO_bin, WO_move, bin_add, WO_nil, PureK_some, geT_put, evO_tmp, evO_const, keep_nil, keep_cons, keepK_eq, Nat.reduceEqDiff, ↓reduceIte, eq_self, e0, e1, e5, wrap_i64 (n := (k : Int) + 1) (by omega) (by omega)]
    clear e0 e1 e5 e28
    intro fr e0 e1 e5
    exact LoopK_n (m' := m - 1) (by omega) ⟨k + 1, by omega, rfl, e0, e1, by rw [e5]; rfl⟩
  · refine LoopK_x (BlkK_e (SeqK_n ?_))
    refine W_seq (W_ops [4] ?_)
    simp only [o22_10, WO_move, WO_nil, geT_put, evO_const, keep_nil, keep_cons, keepK_eq, ↓reduceIte, eq_self]
    clear e0 e1 e5 e15
    intro fr e4
    refine SeqK_n ?_
    exact W_ret (Ret1 e4 ⟨rfl, rfl⟩)

theorem run20b {X : Ctx} (hX : X.fns = fnsOf Try.prog) (ho : ∀ f args, f ≠ 10 ∧ f ≠ 24 → X.orc f args = none) {s0 s : Mm} {l : List HP} {v : Value} {d : Array UInt64} {i : Int} (H : Hold s0 s l) (a : SlC s 1 v d.size (flA d)) (hi : i < 0 ∨ (d.size : Int) ≤ i) :
    CallP X 20 [v, .int .i64 i] s (fun r s' => r = .tuple #[.float .f64 0, .int .i64 2] ∧ Hold s0 s' l) := by
  refine CallP_of (hX ▸ ir20_eq) (ho _ _ (by decide)) (Nat.le_of_ble_eq_true rfl) ?_
  refine W_seq (W_ops [0, 1] ?_)
  simp only [o20_0, WO_move, WO_nil, geT_put, frame_nil, frame_cons, evO_const, keep_nil, keep_cons, keepK_eq, Nat.reduceEqDiff, Nat.reduceAdd, ↓reduceIte, eq_self, Nat.zero_add]
  intro fr e0 e1
  refine SeqK_n ?_
  refine W_assoc ?_
  refine W_seq (W_opsB [14] (fun fr1 s6 => s = s6 ∧ geT fr1 14 = .bool true) ?_ ?_)
  · intro R' hR'
    by_cases h0 : i < 0
    · skip
      simp only [o20_1, WO_bin, WO_move, WO_pick, pick_b, bin_lss, WO_nil, PureK_some, WO_guard, want_v, wantB_f, geT_put, evO_tmp, evO_const, keep_nil, keep_cons, keepK_eq, Nat.reduceEqDiff, ↓reduceIte, Bool.not_true, eq_self, Bool.false_eq_true, e1, decide_eq_true h0]
      intro fr e14
      exact hR' _ _ ⟨rfl, e14⟩
    · skip
      simp only [o20_1, WO_bin, WO_bu, WO_move, WO_pick, pick_b, bin_geq, bin_lss, WO_nil, PureK_some, WO_guard, want_v, wantB_f, geT_put, evO_tmp, evO_const, keep_nil, keep_cons, keepK_eq, List.map_cons, List.map_nil, Nat.reduceEqDiff, ↓reduceIte, Bool.not_false, eq_self, Bool.false_eq_true, e0, e1, a.len, decide_eq_false h0, decide_eq_true (show ((d.size : Nat) : Int) ≤ i by omega)]
      intro fr e14
      exact hR' _ _ ⟨rfl, e14⟩
  clear e0 e1 fr
  rintro fr _ ⟨rfl, e14⟩
  refine SeqK_n ?_
  refine W_seq (W_cond e14 (fun _ => ?_) (fun h => by cases h))
  refine W_seq (W_ops [4, 5] ?_)
  simp only [o20_2, WO_move, WO_nil, geT_put, evO_const, keep_nil, keep_cons, keepK_eq, Nat.reduceEqDiff, ↓reduceIte, eq_self]
  clear e14
  intro fr e4 e5
  refine SeqK_n ?_
  exact W_ret (SeqK_r (Ret2 e4 e5 ⟨rfl, H⟩))

theorem run21b {X : Ctx} (hX : X.fns = fnsOf Try.prog) (ho : ∀ f args, f ≠ 10 ∧ f ≠ 24 → X.orc f args = none) {s0 s : Mm} {l : List HP} {v : Value} {d : Array UInt64} {i : Int} (H : Hold s0 s l) (a : SlC s 1 v d.size (flA d)) (hi : i < 0 ∨ (d.size : Int) ≤ i) :
    CallP X 21 [v, .int .i64 i] s (fun r s' => r = .tuple #[.float .f64 0, .int .i64 2] ∧ Hold s0 s' l) := by
  refine CallP_of (hX ▸ ir21_eq) (ho _ _ (by decide)) (Nat.le_of_ble_eq_true rfl) ?_
  refine W_seq (W_ops [0, 1] ?_)
  simp only [o21_0, WO_move, WO_nil, geT_put, frame_nil, frame_cons, evO_const, keep_nil, keep_cons, keepK_eq, Nat.reduceEqDiff, Nat.reduceAdd, ↓reduceIte, eq_self, Nat.zero_add]
  intro fr e0 e1
  refine SeqK_n ?_
  refine W_assoc ?_
  refine W_seq (W_opsB [13] (fun fr1 s6 => s = s6 ∧ geT fr1 13 = .bool true) ?_ ?_)
  · intro R' hR'
    by_cases h0 : i < 0
    · skip
      simp only [o21_1, WO_bin, WO_move, WO_pick, pick_b, bin_lss, WO_nil, PureK_some, WO_guard, want_v, wantB_f, geT_put, evO_tmp, evO_const, keep_nil, keep_cons, keepK_eq, Nat.reduceEqDiff, ↓reduceIte, Bool.not_true, eq_self, Bool.false_eq_true, e1, decide_eq_true h0]
      intro fr e13
      exact hR' _ _ ⟨rfl, e13⟩
    · skip
      simp only [o21_1, WO_bin, WO_bu, WO_move, WO_pick, pick_b, bin_geq, bin_lss, WO_nil, PureK_some, WO_guard, want_v, wantB_f, geT_put, evO_tmp, evO_const, keep_nil, keep_cons, keepK_eq, List.map_cons, List.map_nil, Nat.reduceEqDiff, ↓reduceIte, Bool.not_false, eq_self, Bool.false_eq_true, e0, e1, a.len, decide_eq_false h0, decide_eq_true (show ((d.size : Nat) : Int) ≤ i by omega)]
      intro fr e13
      exact hR' _ _ ⟨rfl, e13⟩
  clear e0 e1 fr
  rintro fr _ ⟨rfl, e13⟩
  refine SeqK_n ?_
  refine W_seq (W_cond e13 (fun _ => ?_) (fun h => by cases h))
  refine W_seq (W_ops [4, 5] ?_)
  simp only [o21_2, WO_move, WO_nil, geT_put, evO_const, keep_nil, keep_cons, keepK_eq, Nat.reduceEqDiff, ↓reduceIte, eq_self]
  clear e13
  intro fr e4 e5
  refine SeqK_n ?_
  exact W_ret (SeqK_r (Ret2 e4 e5 ⟨rfl, H⟩))

end Go.Proofs.Ytfjdihfflghfpaa

/- SumsFloats: the document's sort, walked. -/
namespace Go.Proofs.Ytfjdihfflghfpaa
open Go Go.Vam Go.Sort

def kx (x : UInt64) : Int := kap x.toNat
def SortedK (L : List UInt64) : Prop := L.Pairwise fun x y => kx x ≤ kx y
def AllLe (L M : List UInt64) : Prop := ∀ x ∈ L, ∀ y ∈ M, kx x ≤ kx y

theorem sortedK_append {L M : List UInt64} : SortedK (L ++ M) ↔ SortedK L ∧ SortedK M ∧ AllLe L M := List.pairwise_append

theorem srt_of {d : Array UInt64} {L : List UInt64} (h1 : L.Perm d.toList) (h2 : SortedK L) : (L.map fun x => kap x.toNat) = srt d := by
  have hn : d.size = d.size := rfl
  have hsz : L.length = d.size := by rw [h1.length_eq]; simp
  refine srt_is (d' := L.toArray) rfl ⟨by simpa using hsz, fun i hi => ?_, ?_⟩ (fun i j _ hij hj => ?_)
  · have h3 : d.size ≤ i := by omega
    have h4 : L.length ≤ i := by omega
    simp [h3, h4]
  · have e0 : ∀ a : Array UInt64, (a.extract 0 a.size).toList = a.toList := fun a => by simp
    have e1 : (L.toArray.extract 0 d.size).toList = L := by
      have : d.size = L.toArray.size := by simp [hsz]
      rw [this, e0]
    rw [e0, e1]; exact h1
  · have hj' : j < L.length := by omega
    have := List.pairwise_iff_getElem.1 h2 i j (by omega) hj' hij
    unfold ltK
    refine decide_eq_false ?_
    have g : ∀ k (hk : k < L.length), L.toArray[k]! = L[k] := fun k hk => by simp [hk]
    rw [g j hj', g i (by omega)]
    unfold kx at this
    omega


theorem drop_cons {L : List UInt64} {k : Nat} (hk : k < L.length) : L.drop k = L[k] :: L.drop (k + 1) := by
  rw [List.drop_eq_getElem_cons hk]

theorem arr_get {L : List UInt64} {k : Nat} (hk : k < L.length) : (L.toArray)[k]! = L[k] := by simp [hk]

/-- What is merged so far. -/
structure Mrg (A B O : List UInt64) (p k : Nat) : Prop where
  perm : O.Perm (A.take p ++ B.take k)
  srt : SortedK O
  la : AllLe O (A.drop p)
  lb : AllLe O (B.drop k)

theorem Mrg.nil (A B : List UInt64) : Mrg A B [] 0 0 := ⟨by simp, List.Pairwise.nil, fun x h => (by cases h), fun x h => (by cases h)⟩

theorem snoc_sorted {O : List UInt64} {x : UInt64} (h : SortedK O) (hx : ∀ y ∈ O, kx y ≤ kx x) : SortedK (O ++ [x]) :=
  sortedK_append.2 ⟨h, List.pairwise_singleton _ _, fun y hy z hz => by rw [List.mem_singleton.1 hz]; exact hx y hy⟩

theorem Mrg.left {A B O : List UInt64} {p k : Nat} (h : Mrg A B O p k) (hA : SortedK A) (hB : SortedK B) (hp : p < A.length) (hk : k < B.length) (hle : kx A[p] ≤ kx B[k]) : Mrg A B (O ++ [A[p]]) (p + 1) k := by
  have hd := drop_cons hp
  have hdb := drop_cons hk
  have sA : SortedK (A.drop p) := hA.sublist (List.drop_sublist p A)
  have sB : SortedK (B.drop k) := hB.sublist (List.drop_sublist k B)
  rw [hd] at sA
  rw [hdb] at sB
  have hxa := (List.pairwise_cons.1 sA).1
  have hxb := (List.pairwise_cons.1 sB).1
  refine ⟨?_, snoc_sorted h.srt (fun y hy => h.la y hy _ (by rw [hd]; exact List.mem_cons_self ..)), ?_, ?_⟩
  · rw [List.take_add_one, List.getElem?_eq_getElem hp]
    have := h.perm.append_right [A[p]]
    refine this.trans ?_
    show (A.take p ++ B.take k ++ [A[p]]).Perm (A.take p ++ [A[p]] ++ B.take k)
    rw [List.append_assoc, List.append_assoc]
    exact (List.perm_append_comm).append_left _
  · intro x hx y hy
    rcases List.mem_append.1 hx with hx | hx
    · exact h.la x hx y (by rw [hd]; exact List.mem_cons_of_mem _ hy)
    · rw [List.mem_singleton.1 hx]; exact hxa y hy
  · intro x hx y hy
    rcases List.mem_append.1 hx with hx | hx
    · exact h.lb x hx y hy
    · rw [List.mem_singleton.1 hx]
      rw [hdb] at hy
      rcases List.mem_cons.1 hy with rfl | hy
      · exact hle
      · have := hxb y hy; omega

theorem Mrg.right {A B O : List UInt64} {p k : Nat} (h : Mrg A B O p k) (hA : SortedK A) (hB : SortedK B) (hk : k < B.length) (hle : ∀ hp : p < A.length, kx B[k] ≤ kx A[p]) : Mrg A B (O ++ [B[k]]) p (k + 1) := by
  have hdb := drop_cons hk
  have sB : SortedK (B.drop k) := hB.sublist (List.drop_sublist k B)
  rw [hdb] at sB
  have hxb := (List.pairwise_cons.1 sB).1
  refine ⟨?_, snoc_sorted h.srt (fun y hy => h.lb y hy _ (by rw [hdb]; exact List.mem_cons_self ..)), ?_, ?_⟩
  · rw [List.take_add_one, List.getElem?_eq_getElem hk]
    have := h.perm.append_right [B[k]]
    refine this.trans ?_
    rw [List.append_assoc]
    exact List.Perm.refl _
  · intro x hx y hy
    rcases List.mem_append.1 hx with hx | hx
    · exact h.la x hx y hy
    · rw [List.mem_singleton.1 hx]
      by_cases hp : p < A.length
      · have hd := drop_cons hp
        have sA : SortedK (A.drop p) := hA.sublist (List.drop_sublist p A)
        rw [hd] at sA hy
        have hxa := (List.pairwise_cons.1 sA).1
        have h1 := hle hp
        rcases List.mem_cons.1 hy with rfl | hy
        · exact h1
        · have := hxa y hy; omega
      · rw [List.drop_eq_nil_of_le (by omega)] at hy; cases hy
  · intro x hx y hy
    rcases List.mem_append.1 hx with hx | hx
    · exact h.lb x hx y (by rw [hdb]; exact List.mem_cons_of_mem _ hy)
    · rw [List.mem_singleton.1 hx]; exact hxb y hy

theorem Mrg.done {A B O : List UInt64} {p : Nat} (h : Mrg A B O p B.length) (hA : SortedK A) : (O ++ A.drop p).Perm (A ++ B) ∧ SortedK (O ++ A.drop p) := by
  refine ⟨?_, sortedK_append.2 ⟨h.srt, hA.sublist (List.drop_sublist p A), h.la⟩⟩
  have := h.perm.append_right (A.drop p)
  refine this.trans ?_
  rw [List.take_length, List.append_assoc]
  have e : A ++ B = A.take p ++ (A.drop p ++ B) := by rw [← List.append_assoc, List.take_append_drop]
  rw [e]
  exact (List.perm_append_comm).append_left _

def flT (L : List UInt64) : List Value := L.map fun x => Value.float .f64 x.toNat
theorem fl_push (L : List UInt64) (x : UInt64) : flT L ++ [Value.float .f64 x.toNat] = flT (L ++ [x]) := by simp [flT]
theorem flT_take (L : List UInt64) (k : Nat) : (flT L).take k = flT (L.take k) := by simp [flT, List.map_take]
theorem flT_drop (L : List UInt64) (k : Nat) : (flT L).drop k = flT (L.drop k) := by simp [flT, List.map_drop]
theorem flT_app (L M : List UInt64) : flT L ++ flT M = flT (L ++ M) := by simp [flT]
theorem flT_len (L : List UInt64) : (flT L).length = L.length := by simp [flT]
theorem flT_one (L : List UInt64) : (flT L).all oneCell = true := by unfold flT; rw [List.all_map]; simp [oneCell]
theorem flT_get {L : List UInt64} {k : Nat} (hk : k < L.length) : (flT L)[k]? = some (.float .f64 (L[k]).toNat) := by simp [flT, hk]


set_option maxHeartbeats 4000000 in
theorem run44 {X : Ctx} (hX : X.fns = fnsOf Try.prog) (ho : ∀ f args, f ≠ 10 ∧ f ≠ 24 → X.orc f args = none) (N : Nat) : ∀ {s0 s : Mm} {l : List HP} {v : Value} {L : List UInt64}, L.length ≤ N → Hold s0 s l → SlC s 1 v L.length (flT L) → L.length ≤ 17592186044415 →
    CallP X 44 [v] s (fun r s' => ∃ O : List UInt64, O.Perm L ∧ SortedK O ∧ Hold s0 s' (HP.own 1 r O.length (flT O) :: l)) := by
  have copy : ∀ {s0 s : Mm} {l : List HP} {v : Value} {L : List UInt64}, L.length < 2 → Hold s0 s l → SlC s 1 v L.length (flT L) →
      CallP X 44 [v] s (fun r s' => ∃ O : List UInt64, O.Perm L ∧ SortedK O ∧ Hold s0 s' (HP.own 1 r O.length (flT O) :: l)) := by
    intro s0 s l v L h2 H a
    have hb0 : buildSlV s 1 [.float .f64 0] 0 [] = some (.slice (some ⟨s.nxt, 0, none⟩) 0 0, .cells [] false) := rfl
    have H1 := (H.new []).cellOwn (sz := 1) (n := 0) rfl (by decide)
    have r1 := a.same (Same.new (s := s) (b := .cells [] false)) (fun _ _ h => h)
    obtain ⟨v1, s2, ap1, H2⟩ := H1.append (bytes := 8) r1.src (by rw [flT_len, Nat.mul_one]) (flT_one L) (by omega) (by decide) (by omega) (by omega) (by omega)
    simp only [Nat.zero_add, List.nil_append] at H2
    refine CallP_of (hX ▸ ir44_eq) (ho _ _ (by decide)) (Nat.le_of_ble_eq_true rfl) ?_
    refine W_seq (W_ops [0] ?_)
    simp only [o44_0, WO_move, WO_nil, geT_put, frame_nil, frame_cons, evO_const, keep_nil, keep_cons, keepK_eq, Nat.reduceEqDiff, ↓reduceIte, eq_self, Nat.zero_add]
    intro fr e0
    refine SeqK_n ?_
    refine W_assoc ?_
    refine W_seq (W_ops [0, 10] ?_)
    simp only [o44_1, WO_bin, WO_bu, WO_move, bin_lss, WO_nil, PureK_some, geT_put, evO_tmp, evO_const, keep_nil, keep_cons, keepK_eq, List.map_cons, List.map_nil, Nat.reduceEqDiff, ↓reduceIte, eq_self, e0, a.len, decide_eq_true (show ((L.length : Nat) : Int) < 2 by omega)]
    clear e0
    intro fr e0 e10
    refine SeqK_n ?_
    refine W_seq (W_cond e10 (fun _ => ?_) (fun h => by cases h))
    refine W_seq (W_ops [2] ?_)
    simp only [o44_2, WO_append, WO_buildSlice, WO_move, WO_nil, MemK_some, NewK_some, geT_put, evO_tmp, keep_nil, keep_cons, keepK_eq, List.map_nil, Nat.reduceEqDiff, ↓reduceIte, eq_self, Nat.mul_one, e0, hb0, ap1]
    clear e0 e10
    intro fr e2
    refine SeqK_n ?_
    refine W_ret (SeqK_r (Ret1 e2 ⟨L, List.Perm.refl _, ?_, H2⟩))
    match L, h2 with
    | [], _ => exact List.Pairwise.nil
    | [x], _ => exact List.pairwise_singleton _ _
  induction N with
  | zero => intro s0 s l v L hN H a _; exact copy (by omega) H a
  | succ N ih =>
    intro s0 s l v L hN H a hn
    by_cases h2 : L.length < 2
    · exact copy h2 H a
    obtain ⟨hf, hhf⟩ : ∃ q, q = L.length / 2 := ⟨_, rfl⟩
    have q1 : ((L.length : Nat) : Int).tdiv 2 = ((hf : Nat) : Int) := by rw [hhf, Int.tdiv_eq_ediv_of_nonneg (by omega)]; omega
    have wq := wrap_i64 (n := ((hf : Nat) : Int)) (by omega) (by omega)
    have sl1 := a.sl0 (k2 := .i64) (j := ((hf : Nat) : Int)) rfl (by omega)
    have a1 := a.sub (l := 0) (h := hf) (by omega) (by omega)
    have sl2 := a.slE (k1 := .i64) (i := ((hf : Nat) : Int)) rfl (by omega)
    have a2 := a.sub (l := hf) (h := L.length) (by omega) (Nat.le_refl _)
    rw [Nat.zero_mul, List.drop_zero, Nat.sub_zero, Nat.mul_one, flT_take] at a1
    rw [Nat.mul_one, Nat.mul_one, flT_drop, List.take_of_length_le (by rw [flT_len, List.length_drop]; omega)] at a2
    have t1 : (L.take hf).length = hf := by rw [List.length_take]; omega
    have t2 : (L.drop hf).length = L.length - hf := by rw [List.length_drop]
    have a1' : SlC s 1 (subS 1 v 0 hf) (L.take hf).length (flT (L.take hf)) := by rw [t1]; exact a1
    have a2' : SlC s 1 (subS 1 v hf L.length) (L.drop hf).length (flT (L.drop hf)) := by rw [t2]; exact a2
    clear a1 a2
    refine CallP_of (hX ▸ ir44_eq) (ho _ _ (by decide)) (Nat.le_of_ble_eq_true rfl) ?_
    refine W_seq (W_ops [0] ?_)
    simp only [o44_0, WO_move, WO_nil, geT_put, frame_nil, frame_cons, evO_const, keep_nil, keep_cons, keepK_eq, Nat.reduceEqDiff, ↓reduceIte, eq_self, Nat.zero_add]
    intro fr e0
    refine SeqK_n ?_
    refine W_assoc ?_
    refine W_seq (W_ops [0, 10] ?_)
    simp only [o44_1, WO_bin, WO_bu, WO_move, bin_lss, WO_nil, PureK_some, geT_put, evO_tmp, evO_const, keep_nil, keep_cons, keepK_eq, List.map_cons, List.map_nil, Nat.reduceEqDiff, ↓reduceIte, eq_self, e0, a.len, decide_eq_false (show ¬ ((L.length : Nat) : Int) < 2 by omega)]
    clear e0
    intro fr e0 e10
    refine SeqK_n ?_
    refine W_seq (W_cond e10 (fun h => by cases h) (fun _ => W_skip (SeqK_n ?_)))
    refine W_seq (W_ops [0, 3] ?_)
    simp only [o44_3, WO_bin, WO_bu, WO_call, WO_move, WO_slSl, bin_quo, PureK_some, geT_put, evO_tmp, evO_const, List.map_cons, List.map_nil, Option.map_some, Option.map_none, Nat.reduceEqDiff, ↓reduceIte, Int.reduceEq, eq_self, e0, a.len, q1, wq, sl1]
    refine CallK_of (ih (L := L.take hf) (by omega) (Hold.refl s) a1' (by omega)) ?_
    rintro av s1 ⟨A, pA, sA, G1⟩
    have H1 := H.app G1
    simp only [List.cons_append, List.nil_append] at H1
    simp only [WO_move, WO_nil, geT_put, evO_tmp, keep_nil, keep_cons, keepK_eq, Nat.reduceEqDiff, ↓reduceIte, eq_self, e0]
    clear e0 e10
    intro fr e0 e3
    refine SeqK_n ?_
    have lA := pA.length_eq
    refine W_seq (W_ops [3, 4] ?_)
    simp only [o44_4, WO_bin, WO_bu, WO_call, WO_move, WO_slSl, bin_quo, PureK_some, geT_put, evO_tmp, evO_const, List.map_cons, List.map_nil, Option.map_some, Option.map_none, Nat.reduceEqDiff, ↓reduceIte, Int.reduceEq, eq_self, e0, a.len, q1, wq, sl2]
    refine CallK_of (ih (L := L.drop hf) (by omega) (Hold.refl s1) (a2'.same G1.same (fun _ _ h => h)) (by omega)) ?_
    rintro bv s2 ⟨B, pB, sB, G2⟩
    have H2 := H1.app G2
    simp only [List.cons_append, List.nil_append] at H2
    simp only [WO_move, WO_nil, geT_put, evO_tmp, keep_nil, keep_cons, keepK_eq, Nat.reduceEqDiff, ↓reduceIte, eq_self, e3]
    clear e0 e3
    intro fr e3 e4
    refine SeqK_n ?_
    have lB := pB.length_eq
    refine W_seq (W_ops [3, 4, 5] ?_)
    simp only [o44_5, WO_move, WO_nil, geT_put, evO_const, keep_nil, keep_cons, keepK_eq, Nat.reduceEqDiff, ↓reduceIte, eq_self, e3, e4]
    clear e3 e4
    intro fr e3 e4 e5
    refine SeqK_n ?_
    refine W_seq (W_ops [3, 4, 5, 6] ?_)
    simp only [o44_6, WO_move, WO_nil, geT_put, evO_const, keep_nil, keep_cons, keepK_eq, Nat.reduceEqDiff, ↓reduceIte, eq_self, e3, e4, e5]
    clear e3 e4 e5
    intro fr e3 e4 e5 e6
    refine SeqK_n ?_
    refine W_assoc ?_
    refine W_seq (W_ops [3, 4, 5, 6, 7] ?_)
    simp only [o44_7, WO_move, WO_nil, geT_put, evO_const, keep_nil, keep_cons, keepK_eq, Nat.reduceEqDiff, ↓reduceIte, eq_self, e3, e4, e5, e6]
    clear e3 e4 e5 e6
    intro fr e3 e4 e5 e6 e7
    refine SeqK_n ?_
    have H3 := H2.nil 1
    refine W_seq (W_block (W_loop (fun m fr s1 => ∃ (k p : Nat) (ov : Value) (O : List UInt64), k + m = B.length ∧ p ≤ A.length ∧ Mrg A B O p k ∧ geT fr 3 = av ∧ geT fr 4 = bv ∧ geT fr 5 = ov ∧ geT fr 6 = .int .i64 (p : Nat) ∧ geT fr 7 = .int .i64 (k : Nat) ∧
      Hold s0 s1 (HP.own 1 ov O.length (flT O) :: HP.own 1 bv B.length (flT B) :: HP.own 1 av A.length (flT A) :: l)) B.length ⟨0, 0, _, [], by omega, by omega, Mrg.nil A B, e3, e4, e5, e6, e7, H3⟩ ?_))
    clear e3 e4 e5 e6 e7 fr H1 H2 H3 G1 G2 a1' a2' sl1 sl2
    rintro m fr s3 ⟨k, p, ov, O, hk, hp, hM, e3, e4, e5, e6, e7, H⟩
    have lO := hM.perm.length_eq
    rw [List.length_append, List.length_take, List.length_take] at lO
    have bl := (H.own (v := bv) (n := B.length) (sz := 1) (cs := flT B) (by simp)).slc
    refine W_assoc ?_
    refine W_seq (W_ops [3, 4, 5, 6, 7, 29] ?_)
    simp only [o44_9, WO_bin, WO_bu, WO_move, bin_lss, WO_nil, PureK_some, geT_put, evO_tmp, keep_nil, keep_cons, keepK_eq, List.map_cons, List.map_nil, Nat.reduceEqDiff, ↓reduceIte, eq_self, e3, e4, e5, e6, e7, bl.len]
    clear e3 e4 e5 e6 e7
    intro fr e3 e4 e5 e6 e7 e29
    refine SeqK_n ?_
    refine W_while e29 (fun hlt => ?_) (fun hlt => ?_)
    · have hkB : k < B.length := by omega
      refine W_seq (W_block ?_)
      refine W_seq (W_cutN (fun fr1 s6 => ∃ (p : Nat) (ov : Value) (O : List UInt64), p ≤ A.length ∧ (∀ hp : p < A.length, kx B[k] ≤ kx A[p]) ∧ Mrg A B O p k ∧ geT fr1 3 = av ∧ geT fr1 4 = bv ∧ geT fr1 5 = ov ∧ geT fr1 6 = .int .i64 (p : Nat) ∧ geT fr1 7 = .int .i64 (k : Nat) ∧
        Hold s0 s6 (HP.own 1 ov O.length (flT O) :: HP.own 1 bv B.length (flT B) :: HP.own 1 av A.length (flT A) :: l)) ?_ ?_)
      · intro R' hR'
        refine W_block (W_loop (fun m fr s6 => ∃ (p : Nat) (ov : Value) (O : List UInt64), p + m = A.length ∧ Mrg A B O p k ∧ geT fr 3 = av ∧ geT fr 4 = bv ∧ geT fr 5 = ov ∧ geT fr 6 = .int .i64 (p : Nat) ∧ geT fr 7 = .int .i64 (k : Nat) ∧
          Hold s0 s6 (HP.own 1 ov O.length (flT O) :: HP.own 1 bv B.length (flT B) :: HP.own 1 av A.length (flT A) :: l)) (A.length - p) ⟨p, ov, O, by omega, hM, e3, e4, e5, e6, e7, H⟩ ?_)
        clear e3 e4 e5 e6 e7 e29 fr H hM lO bl hp p ov O s3
        rintro m' fr s3 ⟨p, ov, O, hp, hM, e3, e4, e5, e6, e7, H⟩
        have lO := hM.perm.length_eq
        rw [List.length_append, List.length_take, List.length_take] at lO
        have al := (H.own (v := av) (n := A.length) (sz := 1) (cs := flT A) (by simp)).slc
        have bl := (H.own (v := bv) (n := B.length) (sz := 1) (cs := flT B) (by simp)).slc
        refine W_assoc ?_
        by_cases hpA : p < A.length
        · have A1 := al.addr (kk := .i64) (i := (p : Int)) rfl hpA
          have A2 := bl.addr (kk := .i64) (i := (k : Int)) rfl hkB
          rw [Nat.mul_one] at A1 A2
          have L1 : loadV s3 none (elP av p) = some (.float .f64 (A[p]).toNat) := al.load (flT_get hpA)
          have L2 : loadV s3 none (elP bv k) = some (.float .f64 (B[k]).toNat) := bl.load (flT_get hkB)
          refine W_seq (W_draw0 [3, 4, 5, 6, 7, 47] rfl ?_)
          simp only [d44_11, WD_addrSl, WD_bin, WD_bu, WD_call, WD_load, WD_move, bin_lss, want_v, wantB_t, DPureK_some, DReadK_some, pastR_nil, joinF_nil, setH_self, geT_put, evO_tmp, List.map_cons, List.map_nil, Nat.reduceEqDiff, Nat.reduceAdd, ↓reduceIte, eq_self, true_and, Nat.zero_add, e3, e4, e6, e7, WD_yes, al.len, decide_eq_true (show ((p : Nat) : Int) < ((A.length : Nat) : Int) by omega), A1, A2, L1, L2]
          refine DCallK_of rfl (run25 hX ho (UInt64.toNat_lt _) (UInt64.toNat_lt _)) ?_
          rintro _ _ ⟨rfl, rfl⟩
          simp only [WD_bin, WD_pick, pick_b, bin_leq, want_v, wantB_t, WD_nil, DPureK_some, joinF_nil, joinAll_nil, setH_self, Nat.testBit, Nat.reduceShiftRight, Nat.reduceAnd, Nat.reduceBneDiff, List.all_nil, List.all_cons, List.filter_nil, List.filter_cons, geT_put, evO_tmp, evO_const, keep_nil, keep_cons, keepK_eq, Nat.reduceEqDiff, Nat.reduceAdd, ↓reduceIte, Bool.not_true, Bool.and_true, Bool.true_or, eq_self, Bool.false_eq_true, true_and, e3, e4, e5, e6, e7, WD_yes]
          clear e3 e4 e5 e6 e7
          intro fr e3 e4 e5 e6 e7 e47
          refine SeqK_n ?_
          have hz : ((if kap (A[p]).toNat = kap (B[k]).toNat then (0 : Int) else if kap (A[p]).toNat < kap (B[k]).toNat then -1 else 1) ≤ 0) ↔ kx A[p] ≤ kx B[k] := by
            unfold kx
            split
            · omega
            · split <;> omega
          by_cases hle : kx A[p] ≤ kx B[k]
          · rw [decide_eq_true (hz.2 hle)] at e47
            refine W_seq (W_cond e47 (fun _ => W_skip (SeqK_n ?_)) (fun h => by cases h))
            refine W_block ?_
            have hbs : buildSlV s3 1 [.float .f64 0] 1 [(0, 1, .float .f64 (A[p]).toNat)] = some (.slice (some ⟨s3.nxt, 0, none⟩) 1 1, .cells [.float .f64 (A[p]).toNat] false) := rfl
            obtain ⟨ov', s4, ap, H4⟩ := H.push (bytes := 8) (new := [.float .f64 (A[p]).toNat]) rfl rfl (by omega) (by decide) (by omega) (by omega) (by omega)
            have hfl : O.length + 1 = (O ++ [A[p]]).length := by simp
            rw [fl_push, hfl] at H4
            refine W_seq (W_ops [3, 4, 5, 6, 7] ?_)
            simp only [o44_12, WO_addrSl, WO_append, WO_buildSlice, WO_load, WO_move, WO_nil, PureK_some, MemK_some, NewK_some, geT_put, evO_tmp, keep_nil, keep_cons, keepK_eq, List.map_cons, List.map_nil, Nat.reduceEqDiff, ↓reduceIte, eq_self, Nat.mul_one, e3, e4, e5, e6, e7, A1, L1, hbs, ap]
            clear e3 e4 e5 e6 e7
            intro fr e3 e4 e5 e6 e7
            refine SeqK_n ?_
            refine W_ops [3, 4, 5, 6, 7] ?_
            simp only [o44_13, WO_bin, WO_move, bin_add, WO_nil, PureK_some, geT_put, evO_tmp, evO_const, keep_nil, keep_cons, keepK_eq, Nat.reduceEqDiff, ↓reduceIte, eq_self, e3, e4, e5, e6, e7, wrap_i64 (n := (p : Int) + 1) (by omega) (by omega)]
            clear e3 e4 e5 e6 e7
            intro fr e3 e4 e5 e6 e7
            exact BlkK_n (LoopK_n (m' := m' - 1) (by omega) ⟨p + 1, ov', _, by omega, hM.left sA sB hpA hkB hle, e3, e4, e5, by rw [e6]; rfl, e7, H4⟩)
          · rw [decide_eq_false (fun h => hle (hz.1 h))] at e47
            refine W_seq (W_cond e47 (fun h => by cases h) (fun _ => W_exit (SeqK_x (LoopK_x (BlkK_e ?_)))))
            exact hR' _ _ ⟨p, ov, O, by omega, fun _ => by omega, hM, e3, e4, e5, e6, e7, H⟩
        · skip
          refine W_seq (W_draw0 [3, 4, 5, 6, 7, 47] rfl ?_)
          simp only [d44_11, WD_bin, WD_bu, WD_move, WD_pick, pick_b, bin_lss, want_v, wantB_t, WD_nil, DPureK_some, DActK_some, preHead_nil, joinF_nil, joinAll_nil, setH_self, Nat.testBit, List.all_nil, List.filter_nil, geT_put, evO_tmp, evO_const, keep_nil, keep_cons, keepK_eq, List.map_cons, List.map_nil, Nat.reduceEqDiff, Nat.reduceAdd, ↓reduceIte, eq_self, Bool.false_eq_true, true_and, Nat.zero_add, e3, e4, e5, e6, e7, WD_no_move, WD_no_bin, WD_no_addrSl, WD_no_load, WD_no_call, al.len, decide_eq_false (show ¬ ((p : Nat) : Int) < ((A.length : Nat) : Int) by omega)]
          clear e3 e4 e5 e6 e7
          intro fr e3 e4 e5 e6 e7 e47
          refine SeqK_n ?_
          refine W_seq (W_cond e47 (fun h => by cases h) (fun _ => W_exit (SeqK_x (LoopK_x (BlkK_e ?_)))))
          exact hR' _ _ ⟨p, ov, O, by omega, fun h => absurd h hpA, hM, e3, e4, e5, e6, e7, H⟩
      clear e3 e4 e5 e6 e7 e29 fr H hM lO bl hp p ov O s3
      rintro fr s3 ⟨p, ov, O, hp, hle, hM, e3, e4, e5, e6, e7, H⟩
      refine SeqK_n ?_
      have lO := hM.perm.length_eq
      rw [List.length_append, List.length_take, List.length_take] at lO
      have bl := (H.own (v := bv) (n := B.length) (sz := 1) (cs := flT B) (by simp)).slc
      have A2 := bl.addr (kk := .i64) (i := (k : Int)) rfl hkB
      rw [Nat.mul_one] at A2
      have L2 : loadV s3 none (elP bv k) = some (.float .f64 (B[k]).toNat) := bl.load (flT_get hkB)
      have hbs : buildSlV s3 1 [.float .f64 0] 1 [(0, 1, .float .f64 (B[k]).toNat)] = some (.slice (some ⟨s3.nxt, 0, none⟩) 1 1, .cells [.float .f64 (B[k]).toNat] false) := rfl
      obtain ⟨ov', s4, ap, H4⟩ := H.push (bytes := 8) (new := [.float .f64 (B[k]).toNat]) rfl rfl (by omega) (by decide) (by omega) (by omega) (by omega)
      have hfl : O.length + 1 = (O ++ [B[k]]).length := by simp
      rw [fl_push, hfl] at H4
      refine W_ops [3, 4, 5, 6, 7] ?_
      simp only [o44_14, WO_addrSl, WO_append, WO_buildSlice, WO_load, WO_move, WO_nil, PureK_some, MemK_some, NewK_some, geT_put, evO_tmp, keep_nil, keep_cons, keepK_eq, List.map_cons, List.map_nil, Nat.reduceEqDiff, ↓reduceIte, eq_self, Nat.mul_one, e3, e4, e5, e6, e7, A2, L2, hbs, ap]
      clear e3 e4 e5 e6 e7
      intro fr e3 e4 e5 e6 e7
      refine BlkK_n (SeqK_n ?_)
      refine W_ops [3, 4, 5, 6, 7] ?_
      simp only [o44_15, WO_bin, WO_move, bin_add, WO_nil, PureK_some, geT_put, evO_tmp, evO_const, keep_nil, keep_cons, keepK_eq, Nat.reduceEqDiff, ↓reduceIte, eq_self, e3, e4, e5, e6, e7, wrap_i64 (n := (k : Int) + 1) (by omega) (by omega)]
      clear e3 e4 e5 e6 e7
      intro fr e3 e4 e5 e6 e7
      exact LoopK_n (m' := m - 1) (by omega) ⟨k + 1, p, ov', _, by omega, hp, hM.right sA sB hkB hle, e3, e4, e5, e6, by rw [e7]; rfl, H4⟩
    · have hkB : k = B.length := by omega
      subst hkB
      refine LoopK_x (BlkK_e (SeqK_n ?_))
      obtain ⟨g1, g2⟩ := hM.done sA
      have al := (H.own (v := av) (n := A.length) (sz := 1) (cs := flT A) (by simp)).slc
      have sl3 := al.slE (k1 := .i64) (i := ((p : Nat) : Int)) rfl hp
      have a3 := al.sub (l := p) (h := A.length) hp (Nat.le_refl _)
      rw [Nat.mul_one, Nat.mul_one, flT_drop, List.take_of_length_le (by rw [flT_len, List.length_drop]; omega)] at a3
      obtain ⟨rv, s4, ap, H4⟩ := H.append (bytes := 8) a3.src (by rw [flT_len, List.length_drop, Nat.mul_one]) (flT_one _) (by omega) (by decide) (by omega) (by omega) (by omega)
      have hfl : O.length + (A.length - p) = (O ++ A.drop p).length := by simp
      rw [flT_app, hfl] at H4
      refine W_seq (W_ops [2] ?_)
      simp only [o44_16, WO_append, WO_move, WO_slSl, WO_nil, PureK_some, MemK_some, geT_put, evO_tmp, keep_nil, keep_cons, keepK_eq, Option.map_some, Option.map_none, Nat.reduceEqDiff, ↓reduceIte, eq_self, e3, e5, e6, sl3, ap]
      clear e3 e4 e5 e6 e7 e29
      intro fr e2
      refine SeqK_n ?_
      refine W_ret (Ret1 e2 ⟨O ++ A.drop p, g1.trans ?_, g2, H4.up2.tail.up1.tail⟩)
      have := pA.append pB
      rwa [List.take_append_drop] at this

end Go.Proofs.Ytfjdihfflghfpaa

/- SumsFloats, walked. -/
namespace Go.Proofs.Ytfjdihfflghfpaa
open Go Go.Vam Go.Sort

/-- What stands at a place of a list sorted; what is told where there is no such place. -/
def NV (d : Array UInt64) (z : Int) (x : Nat) (e : Int) : Prop := (0 ≤ z ∧ z < (d.size : Int) ∧ e = 0 ∧ (srt d)[z.toNat]? = some (kap x)) ∨ ((z < 0 ∨ (d.size : Int) ≤ z) ∧ e = 2 ∧ x = 0)

theorem NV.same {d : Array UInt64} {z : Int} {x y : Nat} {e f : Int} (h1 : NV d z x e) (h2 : NV d z y f) : e = f ∧ kap x = kap y := by
  rcases h1 with ⟨a1, a2, a3, a4⟩ | ⟨a1, a2, a3⟩ <;> rcases h2 with ⟨b1, b2, b3, b4⟩ | ⟨b1, b2, b3⟩
  · rw [a4] at b4
    exact ⟨by omega, Option.some.inj b4⟩
  · omega
  · omega
  · exact ⟨by omega, by rw [a3, b3]⟩


theorem nth_all {X : Ctx} (hX : X.fns = fnsOf Try.prog) (ho : ∀ f args, f ≠ 10 ∧ f ≠ 24 → X.orc f args = none) {s0 s : Mm} {l : List HP} {v : Value} {d : Array UInt64} {z : Int} (H : Hold s0 s l) (a : SlC s 1 v d.size (flA d)) (hn : d.size ≤ 17592186044415) :
    CallP X 20 [v, .int .i64 z] s (fun r s' => ∃ (x : Nat) (e : Int), r = .tuple #[.float .f64 x, .int .i64 e] ∧ x < 18446744073709551616 ∧ NV d z x e ∧ Hold s0 s' l) := by
  by_cases hz : 0 ≤ z ∧ z < (d.size : Int)
  · obtain ⟨i, rfl⟩ : ∃ i : Nat, z = (i : Nat) := ⟨z.toNat, by omega⟩
    obtain ⟨r, s', h1, x, rfl, h2, h3⟩ := run20 hX ho (i := i) H a (by omega) hn
    exact ⟨_, s', h1, x.toNat, 0, rfl, UInt64.toNat_lt x, .inl ⟨hz.1, hz.2, rfl, by rw [Int.toNat_natCast]; exact h2⟩, h3⟩
  · obtain ⟨r, s', h1, rfl, h3⟩ := run20b hX ho (i := z) H a (by omega)
    exact ⟨_, s', h1, 0, 2, rfl, by decide, .inr ⟨by omega, rfl, rfl⟩, h3⟩

theorem run21 {X : Ctx} (hX : X.fns = fnsOf Try.prog) (ho : ∀ f args, f ≠ 10 ∧ f ≠ 24 → X.orc f args = none) {s0 s : Mm} {l : List HP} {v : Value} {d : Array UInt64} {i : Nat} (H : Hold s0 s l) (a : SlC s 1 v d.size (flA d)) (hi : i < d.size) (hn : d.size ≤ 17592186044415) :
    CallP X 21 [v, .int .i64 (i : Nat)] s (fun r s' => ∃ x : UInt64, r = .tuple #[.float .f64 x.toNat, .int .i64 0] ∧ (srt d)[i]? = some (kap x.toNat) ∧ Hold s0 s' l) := by
  have hlen : d.toList.length = d.size := by simp
  have a' : SlC s 1 v d.toList.length (flT d.toList) := by rw [hlen]; exact a
  refine CallP_of (hX ▸ ir21_eq) (ho _ _ (by decide)) (Nat.le_of_ble_eq_true rfl) ?_
  refine W_seq (W_ops [0, 1] ?_)
  simp only [o21_0, WO_move, WO_nil, geT_put, frame_nil, frame_cons, evO_const, keep_nil, keep_cons, keepK_eq, Nat.reduceEqDiff, Nat.reduceAdd, ↓reduceIte, eq_self, Nat.zero_add]
  intro fr e0 e1
  refine SeqK_n ?_
  refine W_assoc ?_
  refine W_seq (W_ops [0, 1, 13] ?_)
  simp only [o21_1, WO_bin, WO_bu, WO_move, WO_pick, pick_b, bin_geq, bin_lss, WO_nil, PureK_some, WO_guard, want_v, wantB_f, geT_put, evO_tmp, evO_const, keep_nil, keep_cons, keepK_eq, List.map_cons, List.map_nil, Nat.reduceEqDiff, ↓reduceIte, Bool.not_false, eq_self, Bool.false_eq_true, e0, e1, a.len, decide_eq_false (show ¬ ((i : Nat) : Int) < 0 by omega), decide_eq_false (show ¬ ((d.size : Nat) : Int) ≤ ((i : Nat) : Int) by omega)]
  clear e0 e1
  intro fr e0 e1 e13
  refine SeqK_n ?_
  refine W_seq (W_cond e13 (fun h => by cases h) (fun _ => W_skip (SeqK_n ?_)))
  refine W_seq (W_ops [4, 5] ?_)
  simp only [o21_3, WO_call, WO_move, geT_put, evO_tmp, List.map_cons, List.map_nil, ↓reduceIte, eq_self, e0]
  refine CallK_of (run44 hX ho d.toList.length (Nat.le_refl _) H a' (by omega)) ?_
  rintro c s2 ⟨O, hp, hs, H2⟩
  have hk := srt_of hp hs
  have hiO : i < O.length := by rw [hp.length_eq]; omega
  have sl := (H2.own (List.mem_cons_self ..)).slc
  have A1 := sl.addr (kk := .i64) (i := (i : Int)) rfl hiO
  rw [Nat.mul_one] at A1
  have L1 : loadV s2 none (elP c i) = some (.float .f64 (O[i]).toNat) := sl.load (flT_get hiO)
  simp only [WO_addrSl, WO_load, WO_move, WO_nil, PureK_some, geT_put, evO_tmp, evO_const, keep_nil, keep_cons, keepK_eq, Nat.reduceEqDiff, ↓reduceIte, eq_self, e1, A1, L1]
  clear e0 e1 e13
  intro fr e4 e5
  refine SeqK_n ?_
  refine W_ret (Ret2 e4 e5 ⟨O[i], rfl, ?_, H2.tail⟩)
  rw [← hk, List.getElem?_map, List.getElem?_eq_getElem hiO]; rfl

theorem nth_ref {X : Ctx} (hX : X.fns = fnsOf Try.prog) (ho : ∀ f args, f ≠ 10 ∧ f ≠ 24 → X.orc f args = none) {s0 s : Mm} {l : List HP} {v : Value} {d : Array UInt64} {z : Int} (H : Hold s0 s l) (a : SlC s 1 v d.size (flA d)) (hn : d.size ≤ 17592186044415) :
    CallP X 21 [v, .int .i64 z] s (fun r s' => ∃ (x : Nat) (e : Int), r = .tuple #[.float .f64 x, .int .i64 e] ∧ x < 18446744073709551616 ∧ NV d z x e ∧ Hold s0 s' l) := by
  by_cases hz : 0 ≤ z ∧ z < (d.size : Int)
  · obtain ⟨i, rfl⟩ : ∃ i : Nat, z = (i : Nat) := ⟨z.toNat, by omega⟩
    obtain ⟨r, s', h1, x, rfl, h2, h3⟩ := run21 hX ho (i := i) H a (by omega) hn
    exact ⟨_, s', h1, x.toNat, 0, rfl, UInt64.toNat_lt x, .inl ⟨hz.1, hz.2, rfl, by rw [Int.toNat_natCast]; exact h2⟩, h3⟩
  · obtain ⟨r, s', h1, rfl, h3⟩ := run21b hX ho (i := z) H a (by omega)
    exact ⟨_, s', h1, 0, 2, rfl, by decide, .inr ⟨by omega, rfl, rfl⟩, h3⟩

set_option maxHeartbeats 4000000 in
theorem run4 {X : Ctx} (hX : X.fns = fnsOf Try.prog) (ho : ∀ f args, f ≠ 10 ∧ f ≠ 24 → X.orc f args = none) (hw : X.orc 24 [] = some (.bool true)) {s : Mm} {v : Value} {d : Array UInt64} {n : Int} (a : SlC s 1 v d.size (flA d)) (hl : d.size ≤ 17592186044415) :
    CallP X 4 [v, .int .i64 n] s (fun r _ => r = .bool true) := by
  obtain ⟨mk, hmk⟩ : ∃ mk : List Value, mk = [.float .f64 4619567317775286272] := ⟨_, rfl⟩
  have hb0 : buildSlV s 1 [.float .f64 0] 0 [] = some (.slice (some ⟨s.nxt, 0, none⟩) 0 0, .cells [] false) := rfl
  have H1 := ((Hold.refl s).new []).cellOwn (sz := 1) (n := 0) rfl (by decide)
  have r1 := a.same (Same.new (s := s) (b := .cells [] false)) (fun _ _ h => h)
  obtain ⟨v1, s2, ap1, H2⟩ := H1.append (bytes := 8) r1.src (by rw [flA_len, Nat.mul_one]) (flA_one d) (by omega) (by decide) (by omega) (by omega) (by omega)
  simp only [Nat.zero_add, List.nil_append] at H2
  have hb1 : buildSlV s2 1 [.float .f64 0] 1 [(0, 1, .float .f64 4619567317775286272)] = some (.slice (some ⟨s2.nxt, 0, none⟩) 1 1, .cells mk false) := by rw [hmk]; rfl
  obtain ⟨rv, s3, ap2, H3⟩ := H2.push (bytes := 8) (new := mk) (by rw [hmk]; rfl) (by rw [hmk]; rfl) (by omega) (by decide) (by omega) (by omega) (by omega)
  have rsl := (H3.own (List.mem_cons_self ..)).slc
  have hsl := rsl.sl0 (k2 := .i64) (j := ((d.size : Nat) : Int)) rfl (Nat.le_succ _)
  refine CallP_of (hX ▸ ir4_eq) (ho _ _ (by decide)) (Nat.le_of_ble_eq_true rfl) ?_
  refine W_seq (W_ops [0, 1] ?_)
  simp only [o4_0, WO_move, WO_nil, geT_put, frame_nil, frame_cons, evO_const, keep_nil, keep_cons, keepK_eq, Nat.reduceEqDiff, Nat.reduceAdd, ↓reduceIte, eq_self, Nat.zero_add]
  intro fr e0 e1
  refine SeqK_n ?_
  refine W_seq (W_ops [0, 1, 5] ?_)
  simp only [o4_1, WO_append, WO_buildSlice, WO_move, WO_nil, MemK_some, NewK_some, geT_put, evO_tmp, evO_const, keep_nil, keep_cons, keepK_eq, List.map_cons, List.map_nil, Nat.reduceEqDiff, ↓reduceIte, eq_self, Nat.mul_one, e0, e1, hb0, ap1, hb1, ap2]
  clear e0 e1
  intro fr e0 e1 e5
  refine SeqK_n ?_
  refine W_seq (W_ops [0, 1, 5, 6] ?_)
  simp only [o4_2, WO_bu, WO_move, WO_slSl, WO_nil, PureK_some, geT_put, evO_tmp, keep_nil, keep_cons, keepK_eq, List.map_cons, List.map_nil, Option.map_some, Option.map_none, Nat.reduceEqDiff, ↓reduceIte, eq_self, e0, e1, e5, a.len, hsl]
  clear e0 e1 e5
  intro fr e0 e1 e5 e6
  refine SeqK_n ?_
  clear ap1 ap2 hb0 hb1 H1 H2 r1 s2 v1
  have cut : ∀ {s' : Mm}, SlC s' 1 rv (d.size + 1) (flA d ++ mk) → SlC s' 1 (subS 1 rv 0 d.size) d.size (flA d) := fun h => by
    have := h.sub (l := 0) (h := d.size) (Nat.zero_le _) (Nat.le_succ _)
    rw [Nat.zero_mul, List.drop_zero, Nat.sub_zero, Nat.mul_one, List.take_append_of_le_length (by rw [flA_len]; omega), List.take_of_length_le (by rw [flA_len]; omega)] at this
    exact this
  obtain ⟨c, hcv⟩ : ∃ c, c = subS 1 rv 0 d.size := ⟨_, rfl⟩
  rw [← hcv] at e6
  rw [← hcv] at cut
  clear hsl
  have a3 := a.same H3.same (fun _ _ h => h)
  refine W_assoc ?_
  refine W_seq (W_ops [0, 1, 5, 6, 27] ?_)
  simp only [o4_3, WO_call, WO_move, geT_put, evO_tmp, List.map_cons, List.map_nil, ↓reduceIte, eq_self, e6]
  refine CallK_of (run18 hX ho (cut rsl) (by omega)) ?_
  rintro _ _ ⟨rfl, rfl⟩
  simp only [WO_call, WO_move, geT_put, evO_tmp, List.map_cons, List.map_nil, Nat.reduceEqDiff, ↓reduceIte, eq_self, e0]
  refine CallK_of (run19 hX ho a3 (by omega)) ?_
  rintro _ _ ⟨rfl, rfl⟩
  simp only [WO_call, geT_put, evO_tmp, List.map_cons, List.map_nil, Nat.reduceEqDiff, ↓reduceIte, eq_self]
  refine CallK_of (same_self hX ho) ?_
  rintro _ _ ⟨rfl, rfl⟩
  simp only [WO_un, un_not, WO_nil, PureK_some, geT_put, evO_tmp, keep_nil, keep_cons, keepK_eq, Nat.reduceEqDiff, ↓reduceIte, Bool.not_true, eq_self, e0, e1, e5, e6]
  clear e0 e1 e5 e6
  intro fr e0 e1 e5 e6 e27
  refine SeqK_n ?_
  refine W_seq (W_cond e27 (fun h => by cases h) (fun _ => W_skip (SeqK_n ?_)))
  obtain ⟨AT, hAT⟩ : ∃ AT : List Int, AT = [n, n.tmod ((d.size : Nat) + 1), -1, 0, (d.size : Nat) - 1, (d.size : Nat)] := ⟨_, rfl⟩
  have hba : buildSlV s3 1 [.int .i64 0] 6 [(0, 1, .int .i64 n), (1, 1, .int .i64 (n.tmod (((d.size : Nat) : Int) + 1))), (2, 1, .int .i64 (-1)), (3, 1, .int .i64 0), (4, 1, .int .i64 (((d.size : Nat) : Int) - 1)), (5, 1, .int .i64 ((d.size : Nat) : Int))] = some (.slice (some ⟨s3.nxt, 0, none⟩) 6 6, .cells (AT.map (Value.int .i64)) false) := by
    rw [hAT]; rfl
  have H4 := (H3.new (AT.map (Value.int .i64))).cellOwn (sz := 1) (n := 6) (by rw [hAT]; rfl) (by decide)
  have hn0 : ¬ ((d.size : Nat) : Int) + 1 = 0 := by omega
  refine W_seq (W_ops [0, 5, 6, 7] ?_)
  simp only [o4_5, WO_bin, WO_bu, WO_buildSlice, WO_move, bin_add, bin_rem, bin_sub, WO_nil, PureK_some, NewK_some, geT_put, evO_tmp, evO_const, keep_nil, keep_cons, keepK_eq, List.map_cons, List.map_nil, Nat.reduceEqDiff, ↓reduceIte, eq_self, Nat.mul_one, e0, e1, e5, e6, a.len, wrap_i64 (n := ((d.size : Nat) : Int) + 1) (by omega) (by omega), hn0, wrap_i64 (n := ((d.size : Nat) : Int) - 1) (by omega) (by omega), hba]
  clear e0 e1 e5 e6 e27
  intro fr e0 e5 e6 e7
  refine SeqK_n ?_
  clear hba
  have hAl : AT.length = 6 := by rw [hAT]; rfl
  generalize newAt s3 (.cells (AT.map (Value.int .i64)) false) = s4 at H4 ⊢
  obtain ⟨atv, hatv⟩ : ∃ x, x = (Value.slice (some ⟨s3.nxt, 0, none⟩) 6 6) := ⟨_, rfl⟩
  rw [← hatv] at H4 e7
  clear hatv hAT H3 rsl a3
  refine W_assoc ?_
  refine W_seq (W_ops [0, 5, 6, 7, 8] ?_)
  simp only [o4_6, WO_move, WO_nil, geT_put, evO_const, keep_nil, keep_cons, keepK_eq, Nat.reduceEqDiff, ↓reduceIte, eq_self, e0, e5, e6, e7]
  clear e0 e5 e6 e7
  intro fr e0 e5 e6 e7 e8
  refine SeqK_n ?_
  refine W_seq (W_block (W_loop (fun m fr s1 => ∃ i : Nat, i + m = 6 ∧ geT fr 0 = v ∧ geT fr 5 = rv ∧ geT fr 6 = c ∧ geT fr 7 = atv ∧ geT fr 8 = .int .i64 (i : Nat) ∧
    Hold s s1 [HP.own 1 atv 6 (AT.map (Value.int .i64)), HP.own 1 rv (d.size + 1) (flA d ++ mk)]) 6 ⟨0, by omega, e0, e5, e6, e7, e8, H4⟩ ?_))
  clear e0 e5 e6 e7 e8 fr H4 s4 s3
  rintro m fr s1 ⟨i, hi, e0, e5, e6, e7, e8, H⟩
  have sa := (H.own (List.mem_cons_self ..)).slc
  have sr := (H.up1.own (List.mem_cons_self ..)).slc
  have sv := a.same H.same (fun _ _ h => h)
  refine W_assoc ?_
  refine W_seq (W_ops [0, 5, 6, 7, 8, 43] ?_)
  simp only [o4_8, WO_bin, WO_bu, WO_move, bin_lss, WO_nil, PureK_some, geT_put, evO_tmp, keep_nil, keep_cons, keepK_eq, List.map_cons, List.map_nil, Nat.reduceEqDiff, ↓reduceIte, eq_self, e0, e5, e6, e7, e8, sa.len]
  clear e0 e5 e6 e7 e8
  intro fr e0 e5 e6 e7 e8 e43
  refine SeqK_n ?_
  refine W_while e43 (fun hlt => ?_) (fun hlt => ?_)
  · have hi6 : i < 6 := by omega
    have A1 := sa.addr (kk := .i64) (i := (i : Int)) rfl hi6
    rw [Nat.mul_one] at A1
    have gL : ∀ s', Hold s s' [HP.own 1 atv 6 (AT.map (Value.int .i64)), HP.own 1 rv (d.size + 1) (flA d ++ mk)] → loadV s' none (elP atv i) = some (.int .i64 AT[i]) := fun s' H' =>
      (H'.own (List.mem_cons_self ..)).slc.load (by simp [hAl, hi6])
    refine W_seq (W_block ?_)
    refine W_seq (W_ops [0, 5, 6, 7, 8, 9, 10] ?_)
    simp only [o4_9, WO_addrSl, WO_call, WO_load, WO_move, PureK_some, geT_put, evO_tmp, List.map_cons, List.map_nil, Nat.reduceEqDiff, ↓reduceIte, eq_self, e6, e7, e8, A1, gL s1 H]
    refine CallK_of (nth_all hX ho (z := AT[i]) H (cut sr) (by omega)) ?_
    rintro _ s2 ⟨x, e, rfl, hx, hv1, H2⟩
    simp only [WO_extract, ext_20, ext_21, WO_move, WO_nil, PureK_some, geT_put, evO_tmp, keep_nil, keep_cons, keepK_eq, Nat.reduceEqDiff, ↓reduceIte, eq_self, e0, e5, e6, e7, e8]
    clear e0 e5 e6 e7 e8 e43
    intro fr e0 e5 e6 e7 e8 e9 e10
    refine SeqK_n ?_
    have sv2 := a.same H2.same (fun _ _ h => h)
    refine W_seq (W_ops [0, 5, 6, 7, 8, 9, 10, 11, 12] ?_)
    simp only [o4_10, WO_addrSl, WO_call, WO_load, WO_move, PureK_some, geT_put, evO_tmp, List.map_cons, List.map_nil, Nat.reduceEqDiff, ↓reduceIte, eq_self, e0, e7, e8, A1, gL s2 H2]
    refine CallK_of (nth_ref hX ho (z := AT[i]) H2 sv2 (by omega)) ?_
    rintro _ s3 ⟨y, f, rfl, hy, hv2, H3⟩
    simp only [WO_extract, ext_20, ext_21, WO_move, WO_nil, PureK_some, geT_put, evO_tmp, keep_nil, keep_cons, keepK_eq, Nat.reduceEqDiff, ↓reduceIte, eq_self, e0, e5, e6, e7, e8, e9, e10]
    clear e0 e5 e6 e7 e8 e9 e10
    intro fr e0 e5 e6 e7 e8 e9 e10 e11 e12
    refine SeqK_n ?_
    obtain ⟨rfl, hxy⟩ := hv1.same hv2
    refine W_seq (W_ops [0, 5, 6, 7, 8, 72] ?_)
    simp only [o4_11, WO_bin, WO_call, WO_move, bin_neq, PureK_some, WO_guard, want_v, wantB_f, geT_put, evO_tmp, List.map_cons, List.map_nil, Nat.reduceEqDiff, ↓reduceIte, Bool.not_true, Bool.not_false, decide_true, eq_self, e9, e10, e11, e12]
    refine CallK_of (run14 hX ho hx hy) ?_
    rintro _ _ ⟨rfl, rfl⟩
    simp only [WO_pick, pick_b, WO_un, un_not, WO_nil, PureK_some, WO_guard, want_v, wantB_f, geT_put, evO_tmp, evO_const, keep_nil, keep_cons, keepK_eq, Nat.reduceEqDiff, ↓reduceIte, Bool.not_true, Bool.not_false, eq_self, Bool.false_eq_true, e0, e5, e6, e7, e8, decide_eq_true hxy]
    clear e0 e5 e6 e7 e8 e9 e10 e11 e12
    intro fr e0 e5 e6 e7 e8 e72
    refine SeqK_n ?_
    refine W_cond e72 (fun h => by cases h) (fun _ => W_skip (BlkK_n (SeqK_n ?_)))
    refine W_ops [0, 5, 6, 7, 8] ?_
    simp only [o4_13, WO_bin, WO_move, bin_add, WO_nil, PureK_some, geT_put, evO_tmp, evO_const, keep_nil, keep_cons, keepK_eq, Nat.reduceEqDiff, ↓reduceIte, eq_self, e0, e5, e6, e7, e8, wrap_i64 (n := (i : Int) + 1) (by omega) (by omega)]
    clear e0 e5 e6 e7 e8
    intro fr e0 e5 e6 e7 e8
    exact LoopK_n (m' := m - 1) (by omega) ⟨i + 1, by omega, e0, e5, e6, e7, by rw [e8]; rfl, H3⟩
  refine LoopK_x (BlkK_e (SeqK_n ?_))
  have A7 := sr.addr (kk := .i64) (i := ((d.size : Nat) : Int)) rfl (Nat.lt_succ_self _)
  rw [Nat.mul_one] at A7
  have L7 : loadV s1 none (elP rv d.size) = some (.float .f64 4619567317775286272) := sr.load (by
    rw [List.getElem?_append_right (by rw [flA_len]; omega), flA_len, Nat.sub_self, hmk]; rfl)
  have hb7 := bits_is (x := 4619567317775286272) (by decide)
  refine W_seq (W_ops [4] ?_)
  simp only [o4_14, WO_call, WO_move, geT_put, evO_tmp, List.map_cons, List.map_nil, Nat.reduceEqDiff, ↓reduceIte, eq_self, e0, e6]
  refine CallK_of (run22 hX ho (cut sr) sv (by omega)) ?_
  rintro _ _ ⟨rfl, rfl⟩
  simp only [WO_addrSl, WO_bin, WO_bu, WO_call, WO_ext, WO_load, WO_move, WO_pick, pick_b, bin_eql, PureK_some, WO_guard, want_v, wantB_t, geT_put, evO_tmp, evO_const, List.map_cons, List.map_nil, Nat.reduceEqDiff, ↓reduceIte, decide_true, eq_self, e0, e5, sv.len, A7, L7, WO_ext, hb7]
  refine CallK_of (show CallP X 24 [] s1 (fun r s' => r = .bool true ∧ s1 = s') from ⟨_, _, Call_orc hw, rfl, rfl⟩) ?_
  rintro _ _ ⟨rfl, rfl⟩
  simp only [WO_move, WO_pick, pick_b, WO_nil, PureK_some, geT_put, evO_tmp, evO_const, keep_nil, keep_cons, keepK_eq, Nat.reduceEqDiff, ↓reduceIte, eq_self]
  clear e0 e5 e6 e7 e8 e43
  intro fr e4
  refine SeqK_n ?_
  exact W_ret (Ret1 e4 rfl)

end Go.Proofs.Ytfjdihfflghfpaa
/- What is handed in: floats, with what they weigh. -/
namespace Go.Vam
open Go Go.ChangeShapes

section
variable {P : Program} {T : Type} {s : Mm}

theorem wt_len {t e : TypeId} (ht : P.underlying t = some (.slice e)) {ds rest : List (DataW T)} {W : Nat} (h : ∀ n ∈ DataW.weights P t (.slice ds rest), n ≤ W) : ds.length * P.bytesOf e ≤ W := by
  have := h ((ds.length + rest.length) * P.bytesOf e) (by simp only [DataW.weights, ht]; exact List.mem_cons_self ..)
  exact Nat.le_trans (Nat.mul_le_mul_right _ (by omega)) this

theorem wt_all {e : TypeId} : ∀ {l : List (DataW T)} {d : DataW T}, d ∈ l → ∀ n ∈ d.weights P e, n ∈ DataW.weightsAll P e l
  | x :: r, d, hd, n, hn => by
    simp only [DataW.weightsAll, List.mem_append]
    rcases List.mem_cons.1 hd with rfl | hd
    · exact .inl hn
    · exact .inr (wt_all hd n hn)

theorem wt_el {t e : TypeId} (ht : P.underlying t = some (.slice e)) {ds rest : List (DataW T)} {W : Nat} (h : ∀ n ∈ DataW.weights P t (.slice ds rest), n ≤ W) {d : DataW T} (hd : d ∈ ds) : ∀ n ∈ d.weights P e, n ≤ W :=
  fun n hn => h n (by simp only [DataW.weights, ht]; exact List.mem_cons_of_mem _ (List.mem_append_left _ (wt_all hd n hn)))

/-- Elements of one cell of a kind, with what they weigh. -/
theorem Abs.onesW {α : Type} {f : α → Value} {p : α → Prop} {W : Nat} (hs : Lt s) {t e : TypeId} (ht : P.underlying t = some (.slice e)) (hsz : P.cellsOf e = 1) {cs : List Value} {d : DataW T} (h : Abs P s t cs d) (hw : ∀ n ∈ d.weights P t, n ≤ W)
    (hk : ∀ (l : List Value) (d : DataW T), Abs P s e l d → ∃ x, l = [f x] ∧ p x) :
    ∃ (v : Value) (xs : List α), cs = [v] ∧ SlC s 1 v xs.length (xs.map f) ∧ xs.length * P.bytesOf e ≤ W ∧ ∀ x ∈ xs, p x := by
  obtain ⟨v, ls, ds, h1, h2, h3, h4, h5⟩ := Abs.slW hs ht hsz (by decide) h
  obtain ⟨xs, h6, h7⟩ := ones_of (f := f) (p := p) ls ds h3 (fun i l d hl hd => hk l d (h5 i l d hl hd).2)
  subst h6
  rw [flat_ones, List.length_map] at h2
  rw [List.length_map] at h3
  refine ⟨v, xs, h1, h2, ?_, h7⟩
  rcases h4 with h4 | ⟨rest, h4⟩
  · subst h4; simp only [List.length_nil] at h3; rw [← h3, Nat.zero_mul]; exact Nat.zero_le _
  · subst h4; rw [← h3]; exact wt_len ht hw

end
end Go.Vam

namespace Go.Proofs.Ytfjdihfflghfpaa
open Go Go.Vam Go.Sort
set_option maxRecDepth 100000 in
/-- Floats that are handed in. -/
theorem floats_w {T : Type} {s : Mm} (hs : Lt s) {v : Value} {d : DataW T} (h : AbsV Try.prog s 22 v d) {W : Nat} (hw : ∀ n ∈ d.weights Try.prog 22, n ≤ W) : ∃ D : Array UInt64, SlC s 1 v D.size (flA D) ∧ D.size * 8 ≤ W := by
  unfold AbsV at h
  rw [Try.underlying22] at h
  have b24 : Try.prog.bytesOf 24 = 8 := by decide +kernel
  obtain ⟨w, xs, h1, h2, h3, h4⟩ := Abs.onesW (f := Value.float .f64) (p := fun x => x < 18446744073709551616) hs Try.underlying22 c24 h hw (fun l d hl => by
    obtain ⟨n, k, _, w⟩ := Abs.f Try.underlying24 hl
    exact ⟨n, k, wfl n w⟩)
  cases h1
  rw [b24] at h3
  refine ⟨(xs.map UInt64.ofNat).toArray, ?_, by simpa using h3⟩
  have e : flA (xs.map UInt64.ofNat).toArray = xs.map (Value.float .f64) := by
    unfold flA
    simp only [List.map_map]
    refine List.map_congr_left fun x hx => ?_
    show Value.float .f64 (UInt64.ofNat x).toNat = _
    rw [UInt64.toNat_ofNat', Nat.mod_eq_of_lt (h4 x hx)]
  rw [e]
  simpa using h2

set_option maxRecDepth 100000 in
theorem runSumsFloats {T : Type} {s : Mm} {avs : List Value} {ds : List (DataW T)} (hs : Lt s) (h : AbsL Try.prog s [22, 3] avs ds) (hk : (DataW.weightsEach Try.prog [22, 3] ds).all (· ≤ reachBytes) = true) : CallP ⟨orcW 24, fnsOf Try.prog⟩ 4 avs s (fun v _ => v = .bool true) := by
  obtain ⟨v0, vs, d0, ds, rfl, rfl, h0, h⟩ := AbsL.cons h
  obtain ⟨v1, vs, d1, ds, rfl, rfl, h1, h⟩ := AbsL.cons h
  obtain ⟨rfl, rfl⟩ := AbsL.nil h
  have hw : ∀ n ∈ d0.weights Try.prog 22, n ≤ 140737488351232 := fun n hn => of_decide_eq_true (List.all_eq_true.1 hk n (DataW.weights_mem_each (j := 0) rfl rfl n hn))
  obtain ⟨D, g1, g2⟩ := floats_w hs h0 hw
  unfold AbsV at h1
  rw [Try.underlying3] at h1
  obtain ⟨n, k, _⟩ := Abs.i Try.underlying3 h1
  cases k
  exact run4 (X := ⟨orcW 24, fnsOf Try.prog⟩) rfl (fun f args hf => orcW_other hf.2 args) (orcW_self 24) g1 (by omega)

end Go.Proofs.Ytfjdihfflghfpaa
