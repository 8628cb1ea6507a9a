/- Arrays of cells, told by Lean's arrays: what sorts do with them. -/
import Derived.Test.YtfjdihfflghfpaaWpC
import Derived.Sort.AssemblyPlain
import Derived.Test.YtfjdihfflghfpaaSrtIr
namespace Go.Vam
open Go Go.Sort

/-- Floats in cells. -/
def flA (d : Array UInt64) : List Value := d.toList.map fun x => Value.float .f64 x.toNat

theorem flA_get {d : Array UInt64} {i : Nat} (hi : i < d.size) : (flA d)[i]? = some (.float .f64 (d[i]!).toNat) := by
  unfold flA
  rw [List.getElem?_map, Array.getElem?_toList, Array.getElem?_eq_getElem hi, Array.getElem!_eq_getD, Array.getD, dif_pos hi]
  rfl
theorem flA_len (d : Array UInt64) : (flA d).length = d.size := by simp [flA]
theorem flA_one (d : Array UInt64) : (flA d).all oneCell = true := by
  unfold flA
  rw [List.all_map]
  simp [oneCell]

theorem flA_swp (d : Array UInt64) (i j : Nat) : flA (swp d i j) = ((flA d).set i (.float .f64 (d[j]!).toNat)).set j (.float .f64 (d[i]!).toNat) := by
  unfold flA swp
  rw [Array.toList_setIfInBounds, Array.toList_setIfInBounds, List.map_set, List.map_set]

theorem own_ld {s0 s : Mm} {l : List HP} {v : Value} {n : Nat} {d : Array UInt64} (H : Hold s0 s (HP.own 1 v n (flA d) :: l)) (hn : d.size = n) {i : Nat} (hi : i < n) :
    addrSlV 1 v (.int .i64 (i : Nat)) = some (elP v i) ∧ loadV s none (elP v i) = some (.float .f64 (d[i]!).toNat) := by
  have sl := (H.own (List.mem_cons_self ..)).slc
  have h1 := sl.addr (kk := .i64) (i := (i : Int)) rfl hi
  rw [Nat.mul_one] at h1
  exact ⟨h1, sl.load (flA_get (by omega))⟩

/-- Two elements are exchanged. -/
theorem Hold.swp {s0 s : Mm} {l : List HP} {v : Value} {n : Nat} {d : Array UInt64} (H : Hold s0 s (HP.own 1 v n (flA d) :: l)) (hn : d.size = n) {i j : Nat} (hi : i < n) (hj : j < n) :
    ∃ s1 s2, storeV s 1 (elP v i) (.float .f64 (d[j]!).toNat) = some (undefV, s1) ∧ storeV s1 1 (elP v j) (.float .f64 (d[i]!).toNat) = some (undefV, s2) ∧ Hold s0 s2 (HP.own 1 v n (flA (Sort.swp d i j)) :: l) := by
  obtain ⟨s1, st1, H1⟩ := H.store (k := i) (x := .float .f64 (d[j]!).toNat) (by rw [flA_len]; omega) rfl
  obtain ⟨s2, st2, H2⟩ := H1.store (k := j) (x := .float .f64 (d[i]!).toNat) (by rw [List.length_set, flA_len]; omega) rfl
  rw [← flA_swp] at H2
  exact ⟨s1, s2, st1, st2, H2⟩

theorem swp_size {d : Array UInt64} {i j : Nat} : (Sort.swp d i j).size = d.size := by unfold Sort.swp; simp

/-- A function value that compares. -/
def cmpV (C : FuncId) : Value := .func (.func C) #[] #[]

theorem wantB_u {b : Bool} : wantB undefV b = false := rfl
section
variable {X : Ctx} {fr : Fr} {s : Mm} {t : Tmp} {b : Bool} {d : Option Tmp} {pre : Nat} {l : List DOper} {i : Nat} {hist : List Mm} {acts : List Nat} {flt : List (Nat × Nat × ABlk)} {nid : Nat} {ws : List (Nat × (Mm → Bool))} {Q : Fr → Mm → Prop}
theorem WD_no_call {o : Operand} {xs : List Operand} (h : wantV fr (some (t, b)) = false) : WD X (⟨⟨.call o xs, d, some (t, b)⟩, pre⟩ :: l) i fr s hist acts flt nid ws Q = DActK X (some (undefV, (setH s (joinF pre flt s.h).1))) d pre l i fr s hist acts flt nid ws Q := WD_noAct rfl h
end

end Go.Vam

/- Sorting, walked: the pivot. -/
namespace Go.Proofs.Ytfjdihfflghfpaa
open Go Go.Vam Go.Sort

def pB (B : Nat) : Value := .pointer (some ⟨B, 0, none⟩)


theorem run104 {X : Ctx} (hX : X.fns = fnsOf Try.prog) (ho : ∀ f args, f ≠ 10 ∧ f ≠ 24 → X.orc f args = none) {lt : UInt64 → UInt64 → Bool} {C : FuncId} (hc : ∀ (s : Mm) (x y : UInt64), CallP X C [.float .f64 x.toNat, .float .f64 y.toNat] s (fun r s' => ∃ z, r = .int .i64 z ∧ decide (z < 0) = lt x y ∧ s = s')) {s0 s : Mm} {l : List HP} {Bp : Nat} {k : Int} {v : Value} {n a b : Nat} {d : Array UInt64} (H : Hold s0 s (HP.cell Bp [.int .i64 k] :: HP.own 1 v n (flA d) :: l)) (hn : d.size = n) (ha : a < n) (hb : b < n) (hk : 0 ≤ k ∧ k ≤ 1000) :
    CallP X 104 [v, .int .i64 (a : Nat), .int .i64 (b : Nat), pB Bp, cmpV C] s (fun r s' => ∃ (x y : Nat) (k' : Int), r = .tuple #[.int .i64 (x : Nat), .int .i64 (y : Nat)] ∧ (x = a ∧ y = b ∨ x = b ∧ y = a) ∧ (0 ≤ k' ∧ k' ≤ k + 1) ∧ Hold s0 s' (HP.cell Bp [.int .i64 k'] :: HP.own 1 v n (flA d) :: l)) := by
  refine CallP_of (hX ▸ ir104_eq) (ho _ _ (by decide)) (Nat.le_of_ble_eq_true rfl) ?_
  refine W_seq (W_ops [0, 1, 2, 3, 4] ?_)
  simp only [o104_0, WO_move, WO_nil, geT_put, frame_nil, frame_cons, evO_const, keep_nil, keep_cons, keepK_eq, Nat.reduceEqDiff, Nat.reduceAdd, ↓reduceIte, eq_self, Nat.zero_add]
  intro fr e0 e1 e2 e3 e4
  refine SeqK_n ?_
  obtain ⟨A1, L1⟩ := own_ld H.up1 hn ha
  obtain ⟨A2, L2⟩ := own_ld H.up1 hn hb
  have hcv : cmpV C = .func (.func C) #[] #[] := rfl
  have hpB : pB Bp = .pointer (some ⟨Bp, 0, none⟩) := rfl
  rw [hcv] at e4
  rw [hpB] at e3
  refine W_assoc ?_
  refine W_seq (W_draw0 [1, 2, 3, 22] rfl ?_)
  simp only [d104_1, WD_addrSl, WD_load, WD_move, WD_callT, DFunK_0, DPureK_some, DReadK_some, pastR_nil, joinF_nil, setH_self, geT_put, evO_tmp, List.map_cons, List.map_nil, Nat.reduceEqDiff, Nat.reduceAdd, ↓reduceIte, eq_self, true_and, Nat.zero_add, e0, e1, e2, e4, A1, L1, A2, L2]
  refine DCallK_of rfl (hc _ _ _) ?_
  rintro _ _ ⟨z, rfl, hz, rfl⟩
  simp only [WD_bin, bin_lss, WD_nil, DPureK_some, joinF_nil, joinAll_nil, setH_self, Nat.testBit, Nat.reduceShiftRight, Nat.reduceAnd, Nat.reduceBneDiff, List.all_nil, List.all_cons, List.filter_nil, List.filter_cons, geT_put, evO_tmp, evO_const, keep_nil, keep_cons, keepK_eq, Nat.reduceEqDiff, Nat.reduceAdd, ↓reduceIte, Bool.not_true, Bool.and_true, Bool.true_or, eq_self, Bool.false_eq_true, true_and, e1, e2, e3]
  clear e0 e1 e2 e3 e4
  intro fr e1 e2 e3 e22
  refine SeqK_n ?_
  by_cases h0 : z < 0
  · refine W_seq (W_if e22 (fun _ => ?_) (fun h => absurd h0 h))
    have lk : loadV s none (.pointer (some ⟨Bp, 0, none⟩)) = some (.int .i64 k) := load_g (o := 0) (H.cell (List.mem_cons_self ..))
    have st : storeV s 1 (.pointer (some ⟨Bp, 0, none⟩)) (.int .i64 (k + 1)) = some (undefV, setBlk s Bp (.cells [.int .i64 (k + 1)] false)) := store_g (cs := [.int .i64 k]) (H.cell (List.mem_cons_self ..)) rfl Nat.zero_lt_one
    have H2 := H.setc (cs' := [.int .i64 (k + 1)])
    refine W_seq (W_ops [1, 2] ?_)
    simp only [o104_2, WO_bin, WO_load, WO_move, WO_nilCheck, nilCheck_p, WO_store, bin_add, WO_nil, PureK_some, MemK_some, geT_put, puT_none, evO_tmp, evO_const, keep_nil, keep_cons, keepK_eq, Nat.reduceEqDiff, ↓reduceIte, eq_self, e1, e2, e3, lk, st, wrap_i64 (n := k + 1) (by omega) (by omega)]
    clear e1 e2 e3 e22
    intro fr e1 e2
    refine SeqK_n ?_
    refine W_seq (W_ops [10, 11] ?_)
    simp only [o104_3, WO_move, WO_nil, geT_put, evO_tmp, keep_nil, keep_cons, keepK_eq, Nat.reduceEqDiff, ↓reduceIte, eq_self, e1, e2]
    clear e1 e2
    intro fr e10 e11
    refine SeqK_n ?_
    exact W_ret (SeqK_r (Ret2 e10 e11 ⟨b, a, k + 1, rfl, .inr ⟨rfl, rfl⟩, by omega, H2⟩))
  · refine W_seq (W_if e22 (fun h => absurd h h0) (fun _ => W_skip (SeqK_n ?_)))
    refine W_seq (W_ops [10, 11] ?_)
    simp only [o104_4, WO_move, WO_nil, geT_put, evO_tmp, keep_nil, keep_cons, keepK_eq, Nat.reduceEqDiff, ↓reduceIte, eq_self, e1, e2]
    clear e1 e2 e3 e22
    intro fr e10 e11
    refine SeqK_n ?_
    exact W_ret (Ret2 e10 e11 ⟨a, b, k, rfl, .inl ⟨rfl, rfl⟩, by omega, H⟩)

theorem run101 {X : Ctx} (hX : X.fns = fnsOf Try.prog) (ho : ∀ f args, f ≠ 10 ∧ f ≠ 24 → X.orc f args = none) {lt : UInt64 → UInt64 → Bool} {C : FuncId} (hc : ∀ (s : Mm) (x y : UInt64), CallP X C [.float .f64 x.toNat, .float .f64 y.toNat] s (fun r s' => ∃ z, r = .int .i64 z ∧ decide (z < 0) = lt x y ∧ s = s')) {s0 s : Mm} {l : List HP} {Bp : Nat} {k : Int} {v : Value} {n a b c : Nat} {d : Array UInt64} (H : Hold s0 s (HP.cell Bp [.int .i64 k] :: HP.own 1 v n (flA d) :: l)) (hn : d.size = n) (ha : a < n) (hb : b < n) (hcn : c < n) (hk : 0 ≤ k ∧ k ≤ 900) :
    CallP X 101 [v, .int .i64 (a : Nat), .int .i64 (b : Nat), .int .i64 (c : Nat), pB Bp, cmpV C] s (fun r s' => ∃ (x : Nat) (k' : Int), r = .int .i64 (x : Nat) ∧ (x = a ∨ x = b ∨ x = c) ∧ (0 ≤ k' ∧ k' ≤ k + 3) ∧ Hold s0 s' (HP.cell Bp [.int .i64 k'] :: HP.own 1 v n (flA d) :: l)) := by
  refine CallP_of (hX ▸ ir101_eq) (ho _ _ (by decide)) (Nat.le_of_ble_eq_true rfl) ?_
  refine W_seq (W_ops [0, 1, 2, 3, 4, 5] ?_)
  simp only [o101_0, WO_move, WO_nil, geT_put, frame_nil, frame_cons, evO_const, keep_nil, keep_cons, keepK_eq, Nat.reduceEqDiff, Nat.reduceAdd, ↓reduceIte, eq_self, Nat.zero_add]
  intro fr e0 e1 e2 e3 e4 e5
  refine SeqK_n ?_
  refine W_seq (W_ops [0, 1, 2, 3, 4, 5] ?_)
  simp only [o101_1, WO_call, WO_move, geT_put, evO_tmp, List.map_cons, List.map_nil, Nat.reduceEqDiff, ↓reduceIte, eq_self, e0, e1, e2, e4, e5]
  refine CallK_of (run104 hX ho hc H hn ha hb (by omega)) ?_
  rintro _ s1 ⟨x1, y1, k1, rfl, h1, hk1, H1⟩
  simp only [WO_extract, ext_20, ext_21, WO_move, WO_nil, PureK_some, geT_put, evO_tmp, keep_nil, keep_cons, keepK_eq, Nat.reduceEqDiff, ↓reduceIte, eq_self, e0, e3, e4, e5]
  clear e0 e1 e2 e3 e4 e5
  intro fr e0 e1 e2 e3 e4 e5
  refine SeqK_n ?_
  refine W_seq (W_ops [0, 1, 2, 4, 5] ?_)
  simp only [o101_2, WO_call, WO_move, geT_put, evO_tmp, List.map_cons, List.map_nil, Nat.reduceEqDiff, ↓reduceIte, eq_self, e0, e2, e3, e4, e5]
  refine CallK_of (run104 hX ho hc H1 hn (by omega) hcn (by omega)) ?_
  rintro _ s2 ⟨x2, y2, k2, rfl, h2, hk2, H2⟩
  simp only [WO_extract, ext_20, ext_21, WO_move, WO_nil, PureK_some, geT_put, evO_tmp, keep_nil, keep_cons, keepK_eq, Nat.reduceEqDiff, ↓reduceIte, eq_self, e0, e1, e4, e5]
  clear e0 e1 e2 e3 e4 e5
  intro fr e0 e1 e2 e4 e5
  refine SeqK_n ?_
  refine W_seq (W_ops [2] ?_)
  simp only [o101_3, WO_call, WO_move, geT_put, evO_tmp, List.map_cons, List.map_nil, Nat.reduceEqDiff, ↓reduceIte, eq_self, e0, e1, e2, e4, e5]
  refine CallK_of (run104 hX ho hc H2 hn (by omega) (by omega) (by omega)) ?_
  rintro _ s3 ⟨x3, y3, k3, rfl, h3, hk3, H3⟩
  simp only [WO_extract, ext_20, ext_21, WO_move, WO_nil, PureK_some, geT_put, evO_tmp, keep_nil, keep_cons, keepK_eq, Nat.reduceEqDiff, ↓reduceIte, eq_self]
  clear e0 e1 e2 e4 e5
  intro fr e2
  refine SeqK_n ?_
  refine W_seq (W_ops [12] ?_)
  simp only [o101_4, WO_move, WO_nil, geT_put, evO_tmp, keep_nil, keep_cons, keepK_eq, ↓reduceIte, eq_self, e2]
  clear e2
  intro fr e12
  refine SeqK_n ?_
  exact W_ret (Ret1 e12 ⟨y3, k3, rfl, by omega, by omega, H3⟩)

theorem run100 {X : Ctx} (hX : X.fns = fnsOf Try.prog) (ho : ∀ f args, f ≠ 10 ∧ f ≠ 24 → X.orc f args = none) {lt : UInt64 → UInt64 → Bool} {C : FuncId} (hc : ∀ (s : Mm) (x y : UInt64), CallP X C [.float .f64 x.toNat, .float .f64 y.toNat] s (fun r s' => ∃ z, r = .int .i64 z ∧ decide (z < 0) = lt x y ∧ s = s')) {s0 s : Mm} {l : List HP} {Bp : Nat} {k : Int} {v : Value} {n a : Nat} {d : Array UInt64} (H : Hold s0 s (HP.cell Bp [.int .i64 k] :: HP.own 1 v n (flA d) :: l)) (hn : d.size = n) (ha : 1 ≤ a ∧ a + 1 < n) (hn2 : n ≤ 4611686018427387904) (hk : 0 ≤ k ∧ k ≤ 900) :
    CallP X 100 [v, .int .i64 (a : Nat), pB Bp, cmpV C] s (fun r s' => ∃ (x : Nat) (k' : Int), r = .int .i64 (x : Nat) ∧ (a - 1 ≤ x ∧ x ≤ a + 1) ∧ (0 ≤ k' ∧ k' ≤ k + 3) ∧ Hold s0 s' (HP.cell Bp [.int .i64 k'] :: HP.own 1 v n (flA d) :: l)) := by
  have i1 : ((a : Nat) : Int) - 1 = ((a - 1 : Nat) : Int) := by omega
  have i2 : ((a : Nat) : Int) + 1 = ((a + 1 : Nat) : Int) := by omega
  refine CallP_of (hX ▸ ir100_eq) (ho _ _ (by decide)) (Nat.le_of_ble_eq_true rfl) ?_
  refine W_seq (W_ops [0, 1, 2, 3] ?_)
  simp only [o100_0, WO_move, WO_nil, geT_put, frame_nil, frame_cons, evO_const, keep_nil, keep_cons, keepK_eq, Nat.reduceEqDiff, Nat.reduceAdd, ↓reduceIte, eq_self, Nat.zero_add]
  intro fr e0 e1 e2 e3
  refine SeqK_n ?_
  refine W_seq (W_ops [8] ?_)
  simp only [o100_1, WO_bin, WO_call, WO_move, bin_add, bin_sub, PureK_some, geT_put, evO_tmp, evO_const, List.map_cons, List.map_nil, Nat.reduceEqDiff, ↓reduceIte, eq_self, e0, e1, e2, e3, i1, i2, wrap_i64 (n := ((a - 1 : Nat) : Int)) (by omega) (by omega), wrap_i64 (n := ((a + 1 : Nat) : Int)) (by omega) (by omega)]
  refine CallK_of (run101 hX ho hc H hn (a := a - 1) (b := a) (c := a + 1) (by omega) (by omega) (by omega) hk) ?_
  rintro _ s1 ⟨x1, k1, rfl, h1, hk1, H1⟩
  simp only [WO_move, WO_nil, geT_put, evO_tmp, keep_nil, keep_cons, keepK_eq, ↓reduceIte, eq_self]
  clear e0 e1 e2 e3
  intro fr e8
  refine SeqK_n ?_
  exact W_ret (Ret1 e8 ⟨x1, k1, rfl, by omega, hk1, H1⟩)

end Go.Proofs.Ytfjdihfflghfpaa

/- Sorting, walked: numbers drawn at random; patterns broken; the pivot chosen. -/
namespace Go.Proofs.Ytfjdihfflghfpaa
open Go Go.Vam Go.Sort

theorem wrap_u64_in (n : Int) : 0 ≤ wrapK .u64 n ∧ wrapK .u64 n < 18446744073709551616 := by
  rw [wrapK_eq]; simp [IntKind.wrap, IntKind.bits, IntKind.signed]; omega
theorem xor_u64 (x y : Int) : ∃ c, intBitsV .xor .u64 x y = some c ∧ 0 ≤ c ∧ c < 18446744073709551616 := ⟨_, rfl, wrap_u64_in _⟩
theorem and_u64 (x : Int) {m : Nat} (hm : m < 18446744073709551616) : ∃ c : Nat, intBitsV .and .u64 x ((m : Nat) : Int) = some ((c : Nat) : Int) ∧ c ≤ m := by
  have e : (BitVec.ofInt 64 ((m : Nat) : Int)).toNat = m := by
    rw [BitVec.ofInt_natCast, BitVec.toNat_ofNat]; omega
  have h : (BitVec.ofInt 64 x &&& BitVec.ofInt 64 ((m : Nat) : Int)).toNat ≤ m := by
    rw [BitVec.toNat_and, e]; exact Nat.and_le_right
  exact ⟨_, congrArg some (Vam.wrap_u64 (n := (((BitVec.ofInt 64 x &&& BitVec.ofInt 64 ((m : Nat) : Int)).toNat : Nat) : Int)) (by omega) (by omega)), h⟩

theorem bl_shift {x k : Nat} (h : 2 ^ k ≤ x) : bitsLen x = bitsLen (x / 2 ^ k) + k := by
  have hx : x ≠ 0 := by have := Nat.two_pow_pos k; omega
  have hq : 0 < x / 2 ^ k := Nat.div_pos h (Nat.two_pow_pos k)
  unfold bitsLen
  rw [if_neg hx, if_neg (by omega)]
  have h1 : 2 ^ (Nat.log2 (x / 2 ^ k) + k) ≤ x := by
    rw [Nat.pow_add]
    exact Nat.le_trans (Nat.mul_le_mul_right _ (Nat.log2_self_le (by omega))) (Nat.div_mul_le_self _ _)
  have h2 : x < 2 ^ (Nat.log2 (x / 2 ^ k) + 1 + k) := by
    rw [Nat.pow_add]
    exact (Nat.div_lt_iff_lt_mul (Nat.two_pow_pos k)).1 Nat.lt_log2_self
  have h3 := (Nat.le_log2 hx).2 h1
  have h4 := (Nat.log2_lt hx).2 h2
  omega

theorem bl_bounds {x : Nat} (h : 0 < x) : x < 2 ^ bitsLen x ∧ 2 ^ bitsLen x ≤ 2 * x := by
  unfold bitsLen
  rw [if_neg (by omega)]
  refine ⟨Nat.lt_log2_self, ?_⟩
  rw [Nat.pow_succ, Nat.mul_comm]
  exact Nat.mul_le_mul_left 2 (Nat.log2_self_le (by omega))

theorem bl_le {x k : Nat} (h : x < 2 ^ k) : bitsLen x ≤ k := by
  unfold bitsLen
  split
  · omega
  · rename_i h0
    have := (Nat.log2_lt h0).2 h
    omega


set_option maxHeartbeats 1000000 in
theorem run89 {X : Ctx} (hX : X.fns = fnsOf Try.prog) (ho : ∀ f args, f ≠ 10 ∧ f ≠ 24 → X.orc f args = none) {lt : UInt64 → UInt64 → Bool} {C : FuncId} (hc : ∀ (s : Mm) (x y : UInt64), CallP X C [.float .f64 x.toNat, .float .f64 y.toNat] s (fun r s' => ∃ z, r = .int .i64 z ∧ decide (z < 0) = lt x y ∧ s = s')) {s0 s : Mm} {l : List HP} {v : Value} {n a b : Nat} {d : Array UInt64} (H : Hold s0 s (HP.own 1 v n (flA d) :: l)) (hn : d.size = n) (hab : a + 12 < b) (hb : b ≤ n) (hn2 : n ≤ 1152921504606846976) :
    CallP X 89 [v, .int .i64 (a : Nat), .int .i64 (b : Nat), cmpV C] s (fun r s' => ∃ (p : Nat) (h : Int), r = .tuple #[.int .i64 (p : Nat), .int .i64 h] ∧ (a ≤ p ∧ p < b) ∧ Hold s0 s' (HP.own 1 v n (flA d) :: l)) := by
  obtain ⟨L, hL⟩ : ∃ L, L = b - a := ⟨_, rfl⟩
  have i0 : ((b : Nat) : Int) - ((a : Nat) : Int) = ((L : Nat) : Int) := by omega
  obtain ⟨q, hq⟩ : ∃ q, q = L / 4 := ⟨_, rfl⟩
  have i1 : ((L : Nat) : Int).tdiv 4 = ((q : Nat) : Int) := by rw [hq, Int.tdiv_eq_ediv_of_nonneg (by omega)]; omega
  have m1 : ((q : Nat) : Int) * 1 = ((q : Nat) : Int) := by omega
  have m2 : ((q : Nat) : Int) * 2 = ((q * 2 : Nat) : Int) := by omega
  have m3 : ((q : Nat) : Int) * 3 = ((q * 3 : Nat) : Int) := by omega
  have j1 : ((a : Nat) : Int) + ((q : Nat) : Int) = ((a + q : Nat) : Int) := by omega
  have j2 : ((a : Nat) : Int) + ((q * 2 : Nat) : Int) = ((a + q * 2 : Nat) : Int) := by omega
  have j3 : ((a : Nat) : Int) + ((q * 3 : Nat) : Int) = ((a + q * 3 : Nat) : Int) := by omega
  have w0 := wrap_i64 (n := ((L : Nat) : Int)) (by omega) (by omega)
  have w1 := wrap_i64 (n := ((q : Nat) : Int)) (by omega) (by omega)
  have w2 := wrap_i64 (n := ((q * 2 : Nat) : Int)) (by omega) (by omega)
  have w3 := wrap_i64 (n := ((q * 3 : Nat) : Int)) (by omega) (by omega)
  have u1 := wrap_i64 (n := ((a + q : Nat) : Int)) (by omega) (by omega)
  have u2 := wrap_i64 (n := ((a + q * 2 : Nat) : Int)) (by omega) (by omega)
  have u3 := wrap_i64 (n := ((a + q * 3 : Nat) : Int)) (by omega) (by omega)
  refine CallP_of (hX ▸ ir89_eq) (ho _ _ (by decide)) (Nat.le_of_ble_eq_true rfl) ?_
  refine W_seq (W_ops [0, 1, 2, 3] ?_)
  simp only [o89_0, WO_move, WO_nil, geT_put, frame_nil, frame_cons, evO_const, keep_nil, keep_cons, keepK_eq, Nat.reduceEqDiff, Nat.reduceAdd, ↓reduceIte, eq_self, Nat.zero_add]
  intro fr e0 e1 e2 e3
  refine SeqK_n ?_
  refine W_seq (W_ops [0, 1, 3, 10] ?_)
  simp only [o89_1, WO_bin, WO_move, bin_sub, WO_nil, PureK_some, geT_put, evO_tmp, keep_nil, keep_cons, keepK_eq, Nat.reduceEqDiff, ↓reduceIte, eq_self, e0, e1, e2, e3, i0, w0]
  clear e0 e1 e2 e3
  intro fr e0 e1 e3 e10
  refine SeqK_n ?_
  have H1 := H.new [.int .i64 0]
  refine W_seq (W_ops [0, 1, 3, 10, 11] ?_)
  simp only [o89_2, WO_alloc, WO_nil, geT_put, keep_nil, keep_cons, keepK_eq, Nat.reduceEqDiff, ↓reduceIte, eq_self, e0, e1, e3, e10]
  clear e0 e1 e3 e10
  intro fr e0 e1 e3 e10 e11
  refine SeqK_n ?_
  obtain ⟨Bp, hBp⟩ : ∃ B, B = s.nxt := ⟨_, rfl⟩
  rw [← hBp] at H1 e11
  generalize newAt s (.cells [.int .i64 0] false) = s1 at H1 ⊢
  refine W_seq (W_ops [0, 1, 3, 10, 11, 12] ?_)
  simp only [o89_3, WO_bin, WO_move, bin_add, bin_mul, bin_quo, WO_nil, PureK_some, geT_put, evO_tmp, evO_const, keep_nil, keep_cons, keepK_eq, Nat.reduceEqDiff, ↓reduceIte, Int.reduceEq, eq_self, e0, e1, e3, e10, e11, i1, w1, m1, j1, u1]
  clear e0 e1 e3 e10 e11
  intro fr e0 e1 e3 e10 e11 e12
  refine SeqK_n ?_
  refine W_seq (W_ops [0, 1, 3, 10, 11, 12, 13] ?_)
  simp only [o89_4, WO_bin, WO_move, bin_add, bin_mul, bin_quo, WO_nil, PureK_some, geT_put, evO_tmp, evO_const, keep_nil, keep_cons, keepK_eq, Nat.reduceEqDiff, ↓reduceIte, Int.reduceEq, eq_self, e0, e1, e3, e10, e11, e12, i1, w1, m2, w2, j2, u2]
  clear e0 e1 e3 e10 e11 e12
  intro fr e0 e1 e3 e10 e11 e12 e13
  refine SeqK_n ?_
  refine W_seq (W_ops [0, 3, 10, 11, 12, 13, 14] ?_)
  simp only [o89_5, WO_bin, WO_move, bin_add, bin_mul, bin_quo, WO_nil, PureK_some, geT_put, evO_tmp, evO_const, keep_nil, keep_cons, keepK_eq, Nat.reduceEqDiff, ↓reduceIte, Int.reduceEq, eq_self, e0, e1, e3, e10, e11, e12, e13, i1, w1, m3, w3, j3, u3]
  clear e0 e1 e3 e10 e11 e12 e13
  intro fr e0 e3 e10 e11 e12 e13 e14
  refine SeqK_n ?_
  refine W_assoc ?_
  refine W_seq (W_ops [0, 3, 10, 11, 12, 13, 14, 34] ?_)
  simp only [o89_6, WO_bin, WO_move, bin_geq, WO_nil, PureK_some, geT_put, evO_tmp, evO_const, keep_nil, keep_cons, keepK_eq, Nat.reduceEqDiff, ↓reduceIte, eq_self, e0, e3, e10, e11, e12, e13, e14, decide_eq_true (show (8 : Int) ≤ ((L : Nat) : Int) by omega)]
  clear e0 e3 e10 e11 e12 e13 e14
  intro fr e0 e3 e10 e11 e12 e13 e14 e34
  refine SeqK_n ?_
  refine W_seq (W_cond e34 (fun _ => ?_) (fun h => by cases h))
  refine W_assoc ?_
  refine W_seq (W_ops [0, 3, 11, 12, 13, 14, 36] ?_)
  simp only [o89_7, WO_bin, WO_move, bin_geq, WO_nil, PureK_some, geT_put, evO_tmp, evO_const, keep_nil, keep_cons, keepK_eq, Nat.reduceEqDiff, ↓reduceIte, eq_self, e0, e3, e10, e11, e12, e13, e14]
  clear e0 e3 e10 e11 e12 e13 e14 e34
  intro fr e0 e3 e11 e12 e13 e14 e36
  refine SeqK_n ?_
  refine W_seq (W_cutN (fun fr1 s6 => ∃ (i j k : Nat) (z : Int), (a ≤ i ∧ i < b) ∧ (a ≤ j ∧ j < b) ∧ (a ≤ k ∧ k < b) ∧ (0 ≤ z ∧ z ≤ 9) ∧ geT fr1 0 = v ∧ geT fr1 3 = cmpV C ∧ geT fr1 11 = pB Bp ∧ geT fr1 12 = .int .i64 (i : Nat) ∧ geT fr1 13 = .int .i64 (j : Nat) ∧ geT fr1 14 = .int .i64 (k : Nat) ∧ Hold s0 s6 (HP.cell Bp [.int .i64 z] :: HP.own 1 v n (flA d) :: l)) ?_ ?_)
  · intro R' hR'
    refine W_if e36 (fun h50 => ?_) (fun h50 => W_skip (hR' _ _ ⟨a + q, a + q * 2, a + q * 3, 0, by omega, by omega, by omega, by omega, e0, e3, e11, e12, e13, e14, H1⟩))
    have hpB : Value.pointer (some ⟨Bp, 0, none⟩) = pB Bp := rfl
    rw [hpB] at e11
    refine W_seq (W_ops [0, 3, 11, 12, 13, 14] ?_)
    simp only [o89_8, WO_call, WO_move, geT_put, evO_tmp, List.map_cons, List.map_nil, Nat.reduceEqDiff, ↓reduceIte, eq_self, e0, e3, e11, e12]
    refine CallK_of (run100 hX ho hc H1 hn (by omega) (by omega) (by omega)) ?_
    rintro _ s2 ⟨x1, k1, rfl, h1, hk1, H2⟩
    simp only [WO_move, WO_nil, geT_put, evO_tmp, keep_nil, keep_cons, keepK_eq, Nat.reduceEqDiff, ↓reduceIte, eq_self, e0, e3, e11, e13, e14]
    clear e0 e3 e11 e12 e13 e14 e36
    intro fr e0 e3 e11 e12 e13 e14
    refine SeqK_n ?_
    refine W_seq (W_ops [0, 3, 11, 12, 13, 14] ?_)
    simp only [o89_9, WO_call, WO_move, geT_put, evO_tmp, List.map_cons, List.map_nil, Nat.reduceEqDiff, ↓reduceIte, eq_self, e0, e3, e11, e13]
    refine CallK_of (run100 hX ho hc H2 hn (by omega) (by omega) (by omega)) ?_
    rintro _ s3 ⟨x2, k2, rfl, h2, hk2, H3⟩
    simp only [WO_move, WO_nil, geT_put, evO_tmp, keep_nil, keep_cons, keepK_eq, Nat.reduceEqDiff, ↓reduceIte, eq_self, e0, e3, e11, e12, e14]
    clear e0 e3 e11 e12 e13 e14
    intro fr e0 e3 e11 e12 e13 e14
    refine SeqK_n ?_
    refine W_ops [0, 3, 11, 12, 13, 14] ?_
    simp only [o89_10, WO_call, WO_move, geT_put, evO_tmp, List.map_cons, List.map_nil, Nat.reduceEqDiff, ↓reduceIte, eq_self, e0, e3, e11, e14]
    refine CallK_of (run100 hX ho hc H3 hn (by omega) (by omega) (by omega)) ?_
    rintro _ s4 ⟨x3, k3, rfl, h3, hk3, H4⟩
    simp only [WO_move, WO_nil, geT_put, evO_tmp, keep_nil, keep_cons, keepK_eq, Nat.reduceEqDiff, ↓reduceIte, eq_self, e0, e3, e11, e12, e13]
    clear e0 e3 e11 e12 e13 e14
    intro fr e0 e3 e11 e12 e13 e14
    exact hR' _ _ ⟨x1, x2, x3, k3, by omega, by omega, by omega, by omega, e0, e3, e11, e12, e13, e14, H4⟩
  clear e0 e3 e11 e12 e13 e14 e36 fr H1 hBp s1
  rintro fr s1 ⟨i, j, k, z, hi, hj, hk, hz, e0, e3, e11, e12, e13, e14, H1⟩
  refine SeqK_n ?_
  refine W_ops [11, 13] ?_
  simp only [o89_11, WO_call, WO_move, geT_put, evO_tmp, List.map_cons, List.map_nil, Nat.reduceEqDiff, ↓reduceIte, eq_self, e0, e3, e11, e12, e13, e14]
  refine CallK_of (run101 hX ho hc H1 hn (by omega) (by omega) (by omega) (by omega)) ?_
  rintro _ s2 ⟨p, z2, rfl, hp, hz2, H2⟩
  simp only [WO_move, WO_nil, geT_put, evO_tmp, keep_nil, keep_cons, keepK_eq, Nat.reduceEqDiff, ↓reduceIte, eq_self, e11]
  clear e0 e3 e11 e12 e13 e14
  intro fr e11 e13
  refine SeqK_n ?_
  have hpB : pB Bp = .pointer (some ⟨Bp, 0, none⟩) := rfl
  rw [hpB] at e11
  have lz : loadV s2 none (.pointer (some ⟨Bp, 0, none⟩)) = some (.int .i64 z2) := load_g (o := 0) (H2.cell (List.mem_cons_self ..))
  have hpp : a ≤ p ∧ p < b := by omega
  refine W_seq (W_ops [13, 55] ?_)
  simp only [o89_12, WO_load, WO_nil, PureK_some, geT_put, evO_tmp, keep_nil, keep_cons, keepK_eq, Nat.reduceEqDiff, ↓reduceIte, eq_self, e11, e13, lz]
  clear e11 e13
  intro fr e13 e55
  refine SeqK_n ?_
  refine W_block ?_
  refine W_seq (W_ops [13, 55, 57] ?_)
  simp only [o89_13, WO_bin, WO_move, bin_eql, WO_nil, PureK_some, geT_put, evO_tmp, evO_const, keep_nil, keep_cons, keepK_eq, Nat.reduceEqDiff, ↓reduceIte, eq_self, e13, e55]
  clear e13 e55
  intro fr e13 e55 e57
  refine SeqK_n ?_
  refine W_if e57 (fun _ => ?_) (fun _ => ?_)
  · refine W_seq (W_ops [8, 9] ?_)
    simp only [o89_14, WO_move, WO_nil, geT_put, evO_tmp, evO_const, keep_nil, keep_cons, keepK_eq, Nat.reduceEqDiff, ↓reduceIte, eq_self, e13]
    clear e13 e55 e57
    intro fr e8 e9
    refine SeqK_n ?_
    exact W_ret (BlkK_r (Ret2 e8 e9 ⟨p, 1, rfl, hpp, H2.tail⟩))
  · skip
    refine W_seq (W_ops [13, 60] ?_)
    simp only [o89_15, WO_bin, WO_move, bin_eql, WO_nil, PureK_some, geT_put, evO_tmp, evO_const, keep_nil, keep_cons, keepK_eq, Nat.reduceEqDiff, ↓reduceIte, eq_self, e13, e55]
    clear e13 e55 e57
    intro fr e13 e60
    refine SeqK_n ?_
    refine W_if e60 (fun _ => ?_) (fun _ => ?_)
    · refine W_seq (W_ops [8, 9] ?_)
      simp only [o89_16, WO_move, WO_nil, geT_put, evO_tmp, evO_const, keep_nil, keep_cons, keepK_eq, Nat.reduceEqDiff, ↓reduceIte, eq_self, e13]
      clear e13 e60
      intro fr e8 e9
      refine SeqK_n ?_
      exact W_ret (BlkK_r (Ret2 e8 e9 ⟨p, 2, rfl, hpp, H2.tail⟩))
    · skip
      refine W_seq (W_ops [8, 9] ?_)
      simp only [o89_17, WO_move, WO_nil, geT_put, evO_tmp, evO_const, keep_nil, keep_cons, keepK_eq, Nat.reduceEqDiff, ↓reduceIte, eq_self, e13]
      clear e13 e60
      intro fr e8 e9
      refine SeqK_n ?_
      exact W_ret (BlkK_r (Ret2 e8 e9 ⟨p, 0, rfl, hpp, H2.tail⟩))

end Go.Proofs.Ytfjdihfflghfpaa

/- Sorting, walked: the length of numbers in bits; numbers drawn at random; patterns broken; a part turned about. -/
namespace Go.Proofs.Ytfjdihfflghfpaa
open Go Go.Vam Go.Sort

def lenTab : ByteArray := ⟨#[0, 1, 2, 2, 3, 3, 3, 3, 4, 4, 4, 4, 4, 4, 4, 4, 5, 5, 5, 5, 5, 5, 5, 5, 5, 5, 5, 5, 5, 5, 5, 5, 6, 6, 6, 6, 6, 6, 6, 6, 6, 6, 6, 6, 6, 6, 6, 6, 6, 6, 6, 6, 6, 6, 6, 6, 6, 6, 6, 6, 6, 6, 6, 6, 7, 7, 7, 7, 7, 7, 7, 7, 7, 7, 7, 7, 7, 7, 7, 7, 7, 7, 7, 7, 7, 7, 7, 7, 7, 7, 7, 7, 7, 7, 7, 7, 7, 7, 7, 7, 7, 7, 7, 7, 7, 7, 7, 7, 7, 7, 7, 7, 7, 7, 7, 7, 7, 7, 7, 7, 7, 7, 7, 7, 7, 7, 7, 7, 8, 8, 8, 8, 8, 8, 8, 8, 8, 8, 8, 8, 8, 8, 8, 8, 8, 8, 8, 8, 8, 8, 8, 8, 8, 8, 8, 8, 8, 8, 8, 8, 8, 8, 8, 8, 8, 8, 8, 8, 8, 8, 8, 8, 8, 8, 8, 8, 8, 8, 8, 8, 8, 8, 8, 8, 8, 8, 8, 8, 8, 8, 8, 8, 8, 8, 8, 8, 8, 8, 8, 8, 8, 8, 8, 8, 8, 8, 8, 8, 8, 8, 8, 8, 8, 8, 8, 8, 8, 8, 8, 8, 8, 8, 8, 8, 8, 8, 8, 8, 8, 8, 8, 8, 8, 8, 8, 8, 8, 8, 8, 8, 8, 8, 8, 8, 8, 8, 8, 8, 8, 8, 8, 8, 8, 8, 8, 8]⟩
set_option maxRecDepth 100000 in
theorem lenTab_all : ∀ k : Fin 256, lenTab.data.toList[k.val]? = some (UInt8.ofNat (bitsLen k.val)) := by decide +kernel
theorem bl_small {x : Nat} (h : x < 256) : bitsLen x ≤ 8 := bl_le (k := 8) h
theorem lenTab_at {x : Nat} (h : x < 256) : idxStrV (.string lenTab) (.int .u8 (x : Nat)) = some (.int .u8 (bitsLen x : Nat)) := by
  have h1 := lenTab_all ⟨x, h⟩
  have h2 := bl_small h
  show (if (0 : Int) ≤ (x : Nat) then (lenTab.data.toList[((x : Nat) : Int).toNat]?).map _ else none) = _
  rw [if_pos (by omega), Int.toNat_natCast, h1]
  show some (Value.int .u8 ((UInt8.ofNat (bitsLen x)).toNat : Nat)) = _
  rw [UInt8.toNat_ofNat']
  congr 3
  omega

theorem shr_u64 {x k : Nat} (hk : k < 64) : shiftV .shr .u64 (x : Nat) (k : Nat) = some ((x / 2 ^ k : Nat) : Int) := by
  unfold shiftV
  rw [if_neg (by omega)]
  have : min ((k : Nat) : Int).toNat IntKind.u64.bits = k := by rw [Int.toNat_natCast]; exact Nat.min_eq_left (by show k ≤ 64; omega)
  simp only [this]
  have e : (2 : Int) ^ k = ((2 ^ k : Nat) : Int) := by rw [Int.natCast_pow]; rfl
  rw [e, Int.fdiv_eq_ediv_of_nonneg _ (Int.natCast_nonneg _), Int.natCast_ediv]
theorem shr32 {x : Nat} : shiftV .shr .u64 (x : Nat) 32 = some ((x / 2 ^ 32 : Nat) : Int) := shr_u64 (k := 32) (by omega)
theorem shr16 {x : Nat} : shiftV .shr .u64 (x : Nat) 16 = some ((x / 2 ^ 16 : Nat) : Int) := shr_u64 (k := 16) (by omega)
theorem shr8 {x : Nat} : shiftV .shr .u64 (x : Nat) 8 = some ((x / 2 ^ 8 : Nat) : Int) := shr_u64 (k := 8) (by omega)


set_option maxRecDepth 100000 in
set_option maxHeartbeats 1000000 in
theorem run95 {X : Ctx} (hX : X.fns = fnsOf Try.prog) (ho : ∀ f args, f ≠ 10 ∧ f ≠ 24 → X.orc f args = none) {s : Mm} {x : Nat} (hx : x < 18446744073709551616) : CallP X 95 [.int .u64 (x : Nat)] s (fun r s' => r = .int .i64 (bitsLen x : Nat) ∧ s = s') := by
  refine CallP_of (hX ▸ ir95_eq) (ho _ _ (by decide)) (Nat.le_of_ble_eq_true rfl) ?_
  refine W_seq (W_ops [0, 2] ?_)
  simp only [o95_0, WO_move, WO_nil, geT_put, frame_nil, frame_cons, evO_const, keep_nil, keep_cons, keepK_eq, Nat.reduceEqDiff, ↓reduceIte, eq_self, Nat.zero_add]
  intro fr e0 e2
  refine SeqK_n ?_
  refine W_assoc ?_
  refine W_seq (W_ops [0, 2, 4] ?_)
  simp only [o95_1, WO_bin, WO_move, bin_geq, WO_nil, PureK_some, geT_put, evO_tmp, evO_const, keep_nil, keep_cons, keepK_eq, Nat.reduceEqDiff, ↓reduceIte, eq_self, e0, e2]
  clear e0 e2
  intro fr e0 e2 e4
  refine SeqK_n ?_
  refine W_seq (W_cutN (fun fr1 s6 => ∃ y n : Nat, y < 4294967296 ∧ n + bitsLen y = bitsLen x ∧ n ≤ 32 ∧ s = s6 ∧ geT fr1 0 = .int .u64 (y : Nat) ∧ geT fr1 2 = .int .i64 (n : Nat)) ?_ ?_)
  · intro R' hR'
    refine W_if e4 (fun h => ?_) (fun h => W_skip (hR' _ _ ⟨x, 0, by omega, by omega, by omega, rfl, e0, e2⟩))
    refine W_seq (W_ops [0] ?_)
    simp only [o95_2, WO_bin, WO_move, bin_shr, WO_nil, PureK_some, geT_put, evO_tmp, evO_const, keep_nil, keep_cons, keepK_eq, Option.map_some, ↓reduceIte, eq_self, e0, shr32]
    clear e0 e2 e4
    intro fr e0
    refine SeqK_n ?_
    refine W_ops [0, 2] ?_
    simp only [o95_3, WO_move, WO_nil, geT_put, evO_const, keep_nil, keep_cons, keepK_eq, Nat.reduceEqDiff, ↓reduceIte, eq_self, e0]
    clear e0
    intro fr e0 e2
    exact hR' _ _ ⟨x / 2 ^ 32, 32, by omega, by rw [bl_shift (x := x) (k := 32) (by omega)]; omega, by omega, rfl, e0, e2⟩
  clear e0 e2 e4 fr
  rintro fr _ ⟨y, n, hy, hn, hn2, rfl, e0, e2⟩
  refine SeqK_n ?_
  refine W_assoc ?_
  refine W_seq (W_ops [0, 2, 8] ?_)
  simp only [o95_4, WO_bin, WO_move, bin_geq, WO_nil, PureK_some, geT_put, evO_tmp, evO_const, keep_nil, keep_cons, keepK_eq, Nat.reduceEqDiff, ↓reduceIte, eq_self, e0, e2]
  clear e0 e2
  intro fr e0 e2 e8
  refine SeqK_n ?_
  refine W_seq (W_cutN (fun fr1 s6 => ∃ y n : Nat, y < 65536 ∧ n + bitsLen y = bitsLen x ∧ n ≤ 48 ∧ s = s6 ∧ geT fr1 0 = .int .u64 (y : Nat) ∧ geT fr1 2 = .int .i64 (n : Nat)) ?_ ?_)
  · intro R' hR'
    refine W_if e8 (fun h => ?_) (fun h => W_skip (hR' _ _ ⟨y, n, by omega, by omega, by omega, rfl, e0, e2⟩))
    refine W_seq (W_ops [0, 2] ?_)
    simp only [o95_5, WO_bin, WO_move, bin_shr, WO_nil, PureK_some, geT_put, evO_tmp, evO_const, keep_nil, keep_cons, keepK_eq, Option.map_some, Nat.reduceEqDiff, ↓reduceIte, eq_self, e0, e2, shr16]
    clear e0 e2 e8
    intro fr e0 e2
    refine SeqK_n ?_
    refine W_ops [0, 2] ?_
    simp only [o95_6, WO_bin, WO_move, bin_add, WO_nil, PureK_some, geT_put, evO_tmp, evO_const, keep_nil, keep_cons, keepK_eq, Nat.reduceEqDiff, ↓reduceIte, eq_self, e0, e2, wrap_i64 (n := (n : Int) + 16) (by omega) (by omega)]
    clear e0 e2
    intro fr e0 e2
    exact hR' _ _ ⟨y / 2 ^ 16, n + 16, by omega, by have := bl_shift (x := y) (k := 16) (by omega); omega, by omega, rfl, e0, by rw [e2]; rfl⟩
  clear e0 e2 e8 fr hy hn hn2 y n
  rintro fr _ ⟨y, n, hy, hn, hn2, rfl, e0, e2⟩
  refine SeqK_n ?_
  refine W_assoc ?_
  refine W_seq (W_ops [0, 2, 14] ?_)
  simp only [o95_7, WO_bin, WO_move, bin_geq, WO_nil, PureK_some, geT_put, evO_tmp, evO_const, keep_nil, keep_cons, keepK_eq, Nat.reduceEqDiff, ↓reduceIte, eq_self, e0, e2]
  clear e0 e2
  intro fr e0 e2 e14
  refine SeqK_n ?_
  refine W_seq (W_cutN (fun fr1 s6 => ∃ y n : Nat, y < 256 ∧ n + bitsLen y = bitsLen x ∧ n ≤ 56 ∧ s = s6 ∧ geT fr1 0 = .int .u64 (y : Nat) ∧ geT fr1 2 = .int .i64 (n : Nat)) ?_ ?_)
  · intro R' hR'
    refine W_if e14 (fun h => ?_) (fun h => W_skip (hR' _ _ ⟨y, n, by omega, by omega, by omega, rfl, e0, e2⟩))
    refine W_seq (W_ops [0, 2] ?_)
    simp only [o95_8, WO_bin, WO_move, bin_shr, WO_nil, PureK_some, geT_put, evO_tmp, evO_const, keep_nil, keep_cons, keepK_eq, Option.map_some, Nat.reduceEqDiff, ↓reduceIte, eq_self, e0, e2, shr8]
    clear e0 e2 e14
    intro fr e0 e2
    refine SeqK_n ?_
    refine W_ops [0, 2] ?_
    simp only [o95_9, WO_bin, WO_move, bin_add, WO_nil, PureK_some, geT_put, evO_tmp, evO_const, keep_nil, keep_cons, keepK_eq, Nat.reduceEqDiff, ↓reduceIte, eq_self, e0, e2, wrap_i64 (n := (n : Int) + 8) (by omega) (by omega)]
    clear e0 e2
    intro fr e0 e2
    exact hR' _ _ ⟨y / 2 ^ 8, n + 8, by omega, by have := bl_shift (x := y) (k := 8) (by omega); omega, by omega, rfl, e0, by rw [e2]; rfl⟩
  clear e0 e2 e14 fr hy hn hn2 y n
  rintro fr _ ⟨y, n, hy, hn, hn2, rfl, e0, e2⟩
  refine SeqK_n ?_
  have hl := bl_small hy
  have ht := lenTab_at hy
  unfold lenTab at ht
  have ej : ((n : Nat) : Int) + ((bitsLen y : Nat) : Int) = ((bitsLen x : Nat) : Int) := by omega
  refine W_seq (W_ops [2] ?_)
  simp only [o95_10, WO_bin, WO_conv, conv_int, WO_idxStr, WO_move, bin_add, WO_nil, PureK_some, geT_put, evO_tmp, evO_const, keep_nil, keep_cons, keepK_eq, Nat.reduceEqDiff, ↓reduceIte, eq_self, e0, e2, wrap_u8 (n := ((y : Nat) : Int)) (by omega) (by omega), ht, wrap_i64 (n := ((bitsLen y : Nat) : Int)) (by omega) (by omega), ej, wrap_i64 (n := ((bitsLen x : Nat) : Int)) (by omega) (by omega)]
  clear e0 e2
  intro fr e2
  refine SeqK_n ?_
  exact W_ret (Ret1 e2 ⟨rfl, rfl⟩)

theorem run63 {X : Ctx} (hX : X.fns = fnsOf Try.prog) (ho : ∀ f args, f ≠ 10 ∧ f ≠ 24 → X.orc f args = none) {s : Mm} {x : Nat} (hx : x < 18446744073709551616) : CallP X 63 [.int .u64 (x : Nat)] s (fun r s' => r = .int .i64 (bitsLen x : Nat) ∧ s = s') := by
  refine CallP_of (hX ▸ ir63_eq) (ho _ _ (by decide)) (Nat.le_of_ble_eq_true rfl) ?_
  refine W_seq (W_ops [0] ?_)
  simp only [o63_0, WO_move, WO_nil, geT_put, frame_nil, frame_cons, evO_const, keep_nil, keep_cons, keepK_eq, Nat.reduceEqDiff, ↓reduceIte, eq_self, Nat.zero_add]
  intro fr e0
  refine SeqK_n ?_
  refine W_seq (W_cond (b := false) rfl (fun h => by cases h) (fun _ => W_skip (SeqK_n ?_)))
  refine W_seq (W_ops [2] ?_)
  simp only [o63_2, WO_call, WO_move, geT_put, evO_tmp, List.map_cons, List.map_nil, ↓reduceIte, eq_self, e0]
  refine CallK_of (run95 hX ho hx) ?_
  rintro _ _ ⟨rfl, rfl⟩
  simp only [WO_move, WO_nil, geT_put, evO_tmp, keep_nil, keep_cons, keepK_eq, ↓reduceIte, eq_self]
  clear e0
  intro fr e2
  refine SeqK_n ?_
  exact W_ret (Ret1 e2 ⟨rfl, rfl⟩)

theorem run98 {X : Ctx} (hX : X.fns = fnsOf Try.prog) (ho : ∀ f args, f ≠ 10 ∧ f ≠ 24 → X.orc f args = none) {s : Mm} {x : Nat} (h0 : 0 < x) (hx : x ≤ 1152921504606846976) : CallP X 98 [.int .i64 (x : Nat)] s (fun r s' => ∃ m : Nat, r = .int .u64 (m : Nat) ∧ x < m ∧ m ≤ 2 * x ∧ s = s') := by
  obtain ⟨b1, b2⟩ := bl_bounds h0
  have b3 := bl_le (x := x) (k := 61) (by omega)
  have hs : shiftV .shl .u64 1 ((bitsLen x : Nat) : Int) = some ((2 ^ bitsLen x : Nat) : Int) := by
    unfold shiftV
    rw [if_neg (by omega)]
    have : min ((bitsLen x : Nat) : Int).toNat IntKind.u64.bits = bitsLen x := by rw [Int.toNat_natCast]; exact Nat.min_eq_left (by show bitsLen x ≤ 64; omega)
    simp only [this]
    rw [Int.one_mul]
    have e : (2 : Int) ^ bitsLen x = ((2 ^ bitsLen x : Nat) : Int) := by rw [Int.natCast_pow]; rfl
    rw [e, Vam.wrap_u64 (by omega) (by omega)]
  refine CallP_of (hX ▸ ir98_eq) (ho _ _ (by decide)) (Nat.le_of_ble_eq_true rfl) ?_
  refine W_seq (W_ops [0] ?_)
  simp only [o98_0, WO_move, WO_nil, geT_put, frame_nil, frame_cons, evO_const, keep_nil, keep_cons, keepK_eq, Nat.reduceEqDiff, ↓reduceIte, eq_self, Nat.zero_add]
  intro fr e0
  refine SeqK_n ?_
  refine W_seq (W_ops [2] ?_)
  simp only [o98_1, WO_call, WO_conv, conv_int, WO_move, PureK_some, geT_put, evO_tmp, List.map_cons, List.map_nil, ↓reduceIte, eq_self, e0, wrap_u64 (n := ((x : Nat) : Int)) (by omega) (by omega)]
  refine CallK_of (run63 hX ho (by omega)) ?_
  rintro _ _ ⟨rfl, rfl⟩
  simp only [WO_bin, WO_move, bin_shl, WO_nil, PureK_some, geT_put, evO_tmp, evO_const, keep_nil, keep_cons, keepK_eq, Option.map_some, ↓reduceIte, eq_self, hs]
  clear e0
  intro fr e2
  refine SeqK_n ?_
  exact W_ret (Ret1 e2 ⟨_, rfl, b1, b2, rfl⟩)

theorem run99 {X : Ctx} (hX : X.fns = fnsOf Try.prog) (ho : ∀ f args, f ≠ 10 ∧ f ≠ 24 → X.orc f args = none) {s0 s : Mm} {l : List HP} {B : Nat} {x : Int} (H : Hold s0 s (HP.cell B [.int .u64 x] :: l)) : CallP X 99 [pB B] s (fun r s' => ∃ y : Int, r = .int .u64 y ∧ Hold s0 s' (HP.cell B [.int .u64 y] :: l)) := by
  have hpB : pB B = .pointer (some ⟨B, 0, none⟩) := rfl
  obtain ⟨a1, hs1⟩ : ∃ w, shiftV .shl .u64 x 13 = some w := ⟨_, rfl⟩
  obtain ⟨x1, hx1, _⟩ := xor_u64 x a1
  obtain ⟨a2, hs2⟩ : ∃ w, shiftV .shr .u64 x1 7 = some w := ⟨_, rfl⟩
  obtain ⟨x2, hx2, _⟩ := xor_u64 x1 a2
  obtain ⟨a3, hs3⟩ : ∃ w, shiftV .shl .u64 x2 17 = some w := ⟨_, rfl⟩
  obtain ⟨x3, hx3, _⟩ := xor_u64 x2 a3
  refine CallP_of (hX ▸ ir99_eq) (ho _ _ (by decide)) (Nat.le_of_ble_eq_true rfl) ?_
  rw [hpB]
  refine W_seq (W_ops [0] ?_)
  simp only [o99_0, WO_move, WO_nil, geT_put, frame_nil, frame_cons, evO_const, keep_nil, keep_cons, keepK_eq, Nat.reduceEqDiff, ↓reduceIte, eq_self, Nat.zero_add]
  intro fr e0
  refine SeqK_n ?_
  have l0 : loadV s none (.pointer (some ⟨B, 0, none⟩)) = some (.int .u64 x) := load_g (o := 0) (H.cell (List.mem_cons_self ..))
  have st1 : storeV s 1 (.pointer (some ⟨B, 0, none⟩)) (.int .u64 x1) = some (undefV, setBlk s B (.cells [.int .u64 x1] false)) := store_g (cs := [.int .u64 x]) (H.cell (List.mem_cons_self ..)) rfl Nat.zero_lt_one
  have H1 := H.setc (cs' := [.int .u64 x1])
  refine W_seq (W_draw0 [0] rfl ?_)
  simp only [d99_1, WD_bin, WD_load, WD_move, WD_nilCheck, nilCheck_p, WD_store, bin_shl, bin_xor, WD_nil, DPureK_some, DReadK_some, DActK_some, pastR_nil, preHead_nil, joinF_nil, joinAll_nil, setH_self, Nat.testBit, Nat.reduceShiftRight, Nat.reduceAnd, Nat.reduceBneDiff, List.all_nil, List.all_cons, List.filter_nil, List.filter_cons, geT_put, puT_none, evO_tmp, evO_const, keep_nil, keep_cons, keepK_eq, Option.map_some, Nat.reduceEqDiff, Nat.reduceAdd, ↓reduceIte, Bool.not_true, Bool.and_true, Bool.true_or, eq_self, Bool.false_eq_true, true_and, Nat.zero_add, e0, l0, hs1, hx1, st1]
  clear e0
  intro fr e0
  refine SeqK_n ?_
  generalize setBlk s B (.cells [.int .u64 x1] false) = s1 at H1 ⊢
  have l1 : loadV s1 none (.pointer (some ⟨B, 0, none⟩)) = some (.int .u64 x1) := load_g (o := 0) (H1.cell (List.mem_cons_self ..))
  have st2 : storeV s1 1 (.pointer (some ⟨B, 0, none⟩)) (.int .u64 x2) = some (undefV, setBlk s1 B (.cells [.int .u64 x2] false)) := store_g (cs := [.int .u64 x1]) (H1.cell (List.mem_cons_self ..)) rfl Nat.zero_lt_one
  have H2 := H1.setc (cs' := [.int .u64 x2])
  refine W_seq (W_draw0 [0] rfl ?_)
  simp only [d99_2, WD_bin, WD_load, WD_move, WD_nilCheck, nilCheck_p, WD_store, bin_shr, bin_xor, WD_nil, DPureK_some, DReadK_some, DActK_some, pastR_nil, preHead_nil, joinF_nil, joinAll_nil, setH_self, Nat.testBit, Nat.reduceShiftRight, Nat.reduceAnd, Nat.reduceBneDiff, List.all_nil, List.all_cons, List.filter_nil, List.filter_cons, geT_put, puT_none, evO_tmp, evO_const, keep_nil, keep_cons, keepK_eq, Option.map_some, Nat.reduceEqDiff, Nat.reduceAdd, ↓reduceIte, Bool.not_true, Bool.and_true, Bool.true_or, eq_self, Bool.false_eq_true, true_and, Nat.zero_add, e0, l1, hs2, hx2, st2]
  clear e0
  intro fr e0
  refine SeqK_n ?_
  generalize setBlk s1 B (.cells [.int .u64 x2] false) = s2 at H2 ⊢
  have l2 : loadV s2 none (.pointer (some ⟨B, 0, none⟩)) = some (.int .u64 x2) := load_g (o := 0) (H2.cell (List.mem_cons_self ..))
  have st3 : storeV s2 1 (.pointer (some ⟨B, 0, none⟩)) (.int .u64 x3) = some (undefV, setBlk s2 B (.cells [.int .u64 x3] false)) := store_g (cs := [.int .u64 x2]) (H2.cell (List.mem_cons_self ..)) rfl Nat.zero_lt_one
  have H3 := H2.setc (cs' := [.int .u64 x3])
  refine W_seq (W_draw0 [0] rfl ?_)
  simp only [d99_3, WD_bin, WD_load, WD_move, WD_nilCheck, nilCheck_p, WD_store, bin_shl, bin_xor, WD_nil, DPureK_some, DReadK_some, DActK_some, pastR_nil, preHead_nil, joinF_nil, joinAll_nil, setH_self, Nat.testBit, Nat.reduceShiftRight, Nat.reduceAnd, Nat.reduceBneDiff, List.all_nil, List.all_cons, List.filter_nil, List.filter_cons, geT_put, puT_none, evO_tmp, evO_const, keep_nil, keep_cons, keepK_eq, Option.map_some, Nat.reduceEqDiff, Nat.reduceAdd, ↓reduceIte, Bool.not_true, Bool.and_true, Bool.true_or, eq_self, Bool.false_eq_true, true_and, Nat.zero_add, e0, l2, hs3, hx3, st3]
  clear e0
  intro fr e0
  refine SeqK_n ?_
  generalize setBlk s2 B (.cells [.int .u64 x3] false) = s3 at H3 ⊢
  have l3 : loadV s3 none (.pointer (some ⟨B, 0, none⟩)) = some (.int .u64 x3) := load_g (o := 0) (H3.cell (List.mem_cons_self ..))
  refine W_seq (W_ops [2] ?_)
  simp only [o99_4, WO_load, WO_move, WO_nilCheck, nilCheck_p, WO_nil, PureK_some, geT_put, evO_tmp, keep_nil, keep_cons, keepK_eq, ↓reduceIte, eq_self, e0, l3]
  clear e0
  intro fr e2
  refine SeqK_n ?_
  exact W_ret (Ret1 e2 ⟨x3, rfl, H3⟩)

end Go.Proofs.Ytfjdihfflghfpaa

/- Sorting, walked: patterns broken; a part turned about. -/
namespace Go.Proofs.Ytfjdihfflghfpaa
open Go Go.Vam Go.Sort


set_option maxHeartbeats 1000000 in
theorem run88 {X : Ctx} (hX : X.fns = fnsOf Try.prog) (ho : ∀ f args, f ≠ 10 ∧ f ≠ 24 → X.orc f args = none) {s0 s : Mm} {l : List HP} {v cv : Value} {n a b : Nat} {d : Array UInt64} (H : Hold s0 s (HP.own 1 v n (flA d) :: l)) (hn : d.size = n) (hab : a + 12 < b) (hb : b ≤ n) (hn2 : n ≤ 1152921504606846976) :
    CallP X 88 [v, .int .i64 (a : Nat), .int .i64 (b : Nat), cv] s (fun _ s' => ∃ d', PermIn a b d d' ∧ Hold s0 s' (HP.own 1 v n (flA d') :: l)) := by
  obtain ⟨L, hL⟩ : ∃ L, L = b - a := ⟨_, rfl⟩
  have i0 : ((b : Nat) : Int) - ((a : Nat) : Int) = ((L : Nat) : Int) := by omega
  obtain ⟨q, hq⟩ : ∃ q, q = L / 4 := ⟨_, rfl⟩
  have i1 : ((L : Nat) : Int).tdiv 4 = ((q : Nat) : Int) := by rw [hq, Int.tdiv_eq_ediv_of_nonneg (by omega)]; omega
  have m2 : ((q : Nat) : Int) * 2 = ((q * 2 : Nat) : Int) := by omega
  have j2 : ((a : Nat) : Int) + ((q * 2 : Nat) : Int) = ((a + q * 2 : Nat) : Int) := by omega
  have k2 : ((a + q * 2 : Nat) : Int) - 1 = ((a + q * 2 - 1 : Nat) : Int) := by omega
  have n2 : ((a + q * 2 : Nat) : Int) + 1 = ((a + q * 2 + 1 : Nat) : Int) := by omega
  have w0 := wrap_i64 (n := ((L : Nat) : Int)) (by omega) (by omega)
  have w0' := wrap_u64 (n := ((L : Nat) : Int)) (by omega) (by omega)
  have w1 := wrap_i64 (n := ((q : Nat) : Int)) (by omega) (by omega)
  have w2 := wrap_i64 (n := ((q * 2 : Nat) : Int)) (by omega) (by omega)
  have u2 := wrap_i64 (n := ((a + q * 2 : Nat) : Int)) (by omega) (by omega)
  have u3 := wrap_i64 (n := ((a + q * 2 - 1 : Nat) : Int)) (by omega) (by omega)
  have u4 := wrap_i64 (n := ((a + q * 2 + 1 : Nat) : Int)) (by omega) (by omega)
  refine CallP_of (hX ▸ ir88_eq) (ho _ _ (by decide)) (Nat.le_of_ble_eq_true rfl) ?_
  refine W_seq (W_ops [0, 1, 8] ?_)
  simp only [o88_0, WO_bin, WO_move, bin_sub, WO_nil, PureK_some, geT_put, frame_nil, frame_cons, evO_tmp, keep_nil, keep_cons, keepK_eq, Nat.reduceEqDiff, Nat.reduceAdd, ↓reduceIte, eq_self, Nat.zero_add, i0, w0]
  intro fr e0 e1 e8
  refine SeqK_n ?_
  refine W_seq (W_ops [0, 1, 8, 17] ?_)
  simp only [o88_1, WO_bin, WO_move, bin_geq, WO_nil, PureK_some, geT_put, evO_tmp, evO_const, keep_nil, keep_cons, keepK_eq, Nat.reduceEqDiff, ↓reduceIte, eq_self, e0, e1, e8, decide_eq_true (show (8 : Int) ≤ ((L : Nat) : Int) by omega)]
  clear e0 e1 e8
  intro fr e0 e1 e8 e17
  refine SeqK_n ?_
  refine W_cond e17 (fun _ => ?_) (fun h => by cases h)
  have H1 := H.new [.int .u64 0]
  have st : storeV (newAt s (.cells [.int .u64 0] false)) 1 (.pointer (some ⟨s.nxt, 0, none⟩)) (.int .u64 (L : Nat)) = some (undefV, setBlk (newAt s (.cells [.int .u64 0] false)) s.nxt (.cells [.int .u64 (L : Nat)] false)) := store_g (cs := [.int .u64 0]) (H1.cell (List.mem_cons_self ..)) rfl Nat.zero_lt_one
  have H2 := H1.setc (cs' := [.int .u64 (L : Nat)])
  refine W_seq (W_ops [0, 1, 8, 9] ?_)
  simp only [o88_2, WO_alloc, WO_conv, conv_int, WO_move, WO_store, WO_nil, PureK_some, MemK_some, geT_put, puT_none, evO_tmp, keep_nil, keep_cons, keepK_eq, Nat.reduceEqDiff, ↓reduceIte, eq_self, e0, e1, e8, w0', st]
  clear e0 e1 e8 e17
  intro fr e0 e1 e8 e9
  refine SeqK_n ?_
  clear st H1
  generalize setBlk (newAt s (.cells [.int .u64 0] false)) s.nxt (.cells [.int .u64 (L : Nat)] false) = s1 at H2 ⊢
  generalize s.nxt = B at H2 e9
  have hpB : Value.pointer (some ⟨B, 0, none⟩) = pB B := rfl
  rw [hpB] at e9
  refine W_seq (W_ops [0, 1, 8, 9, 10] ?_)
  simp only [o88_3, WO_call, WO_move, geT_put, evO_tmp, List.map_cons, List.map_nil, ↓reduceIte, eq_self, e8]
  refine CallK_of (run98 hX ho (x := L) (by omega) (by omega)) ?_
  rintro _ _ ⟨M, rfl, hM1, hM2, rfl⟩
  simp only [WO_move, WO_nil, geT_put, evO_tmp, keep_nil, keep_cons, keepK_eq, Nat.reduceEqDiff, ↓reduceIte, eq_self, e0, e1, e8, e9]
  clear e0 e1 e8 e9
  intro fr e0 e1 e8 e9 e10
  refine SeqK_n ?_
  refine W_seq (W_ops [0, 1, 8, 9, 10, 11] ?_)
  simp only [o88_4, WO_bin, WO_move, bin_add, bin_mul, bin_quo, bin_sub, WO_nil, PureK_some, geT_put, evO_tmp, evO_const, keep_nil, keep_cons, keepK_eq, Nat.reduceEqDiff, ↓reduceIte, Int.reduceEq, eq_self, e0, e1, e8, e9, e10, i1, w1, m2, w2, j2, u2, k2, u3]
  clear e0 e1 e8 e9 e10
  intro fr e0 e1 e8 e9 e10 e11
  refine SeqK_n ?_
  refine W_block (W_loop (fun m fr s1 => ∃ (i : Nat) (x : Int) (d' : Array UInt64), i + m = a + q * 2 + 2 ∧ a + q * 2 - 1 ≤ i ∧ geT fr 0 = v ∧ geT fr 1 = .int .i64 (a : Nat) ∧ geT fr 8 = .int .i64 (L : Nat) ∧ geT fr 9 = pB B ∧ geT fr 10 = .int .u64 (M : Nat) ∧ geT fr 11 = .int .i64 (i : Nat) ∧ PermIn a b d d' ∧
    Hold s0 s1 (HP.cell B [.int .u64 x] :: HP.own 1 v n (flA d') :: l)) 3 ⟨_, _, d, by omega, by omega, e0, e1, e8, e9, e10, e11, permIn_refl _ _ _, H2⟩ ?_)
  clear e0 e1 e8 e9 e10 e11 fr H2 H s1
  rintro m fr s1 ⟨i, x, d', hi, hi2, e0, e1, e8, e9, e10, e11, hP, H⟩
  have hds : d'.size = n := by rw [hP.1]; exact hn
  refine W_assoc ?_
  refine W_seq (W_ops [0, 1, 8, 9, 10, 11, 35] ?_)
  simp only [o88_6, WO_bin, WO_move, bin_add, bin_leq, bin_mul, bin_quo, WO_nil, PureK_some, geT_put, evO_tmp, evO_const, keep_nil, keep_cons, keepK_eq, Nat.reduceEqDiff, ↓reduceIte, Int.reduceEq, eq_self, e0, e1, e8, e9, e10, e11, i1, w1, m2, w2, j2, u2, n2, u4]
  clear e0 e1 e8 e9 e10 e11
  intro fr e0 e1 e8 e9 e10 e11 e35
  refine SeqK_n ?_
  refine W_while e35 (fun hlt => ?_) (fun hlt => ?_)
  · refine W_seq (W_block ?_)
    have eM : ((M : Nat) : Int) - 1 = ((M - 1 : Nat) : Int) := by omega
    have wM := wrap_u64 (n := ((M - 1 : Nat) : Int)) (by omega) (by omega)
    refine W_seq (W_ops [0, 1, 8, 9, 10, 11, 12] ?_)
    simp only [o88_7, WO_call, evO_tmp, List.map_cons, List.map_nil, e9]
    refine CallK_of (run99 hX ho H) ?_
    rintro _ s2 ⟨y, rfl, H2⟩
    obtain ⟨c, hc1, hc2⟩ := and_u64 y (m := M - 1) (by omega)
    simp only [WO_bin, WO_conv, conv_int, WO_move, bin_and, bin_sub, WO_nil, PureK_some, geT_put, evO_tmp, evO_const, keep_nil, keep_cons, keepK_eq, Option.map_some, Nat.reduceEqDiff, ↓reduceIte, eq_self, e0, e1, e8, e9, e10, e11, eM, wM, hc1, wrap_i64 (n := ((c : Nat) : Int)) (by omega) (by omega)]
    clear e0 e1 e8 e9 e10 e11 e35
    intro fr e0 e1 e8 e9 e10 e11 e12
    refine SeqK_n ?_
    refine W_assoc ?_
    refine W_seq (W_ops [0, 1, 8, 9, 10, 11, 12, 45] ?_)
    simp only [o88_8, WO_bin, WO_move, bin_geq, WO_nil, PureK_some, geT_put, evO_tmp, keep_nil, keep_cons, keepK_eq, Nat.reduceEqDiff, ↓reduceIte, eq_self, e0, e1, e8, e9, e10, e11, e12]
    clear e0 e1 e8 e9 e10 e11 e12
    intro fr e0 e1 e8 e9 e10 e11 e12 e45
    refine SeqK_n ?_
    refine W_seq (W_cutN (fun fr1 s6 => ∃ o : Nat, o < L ∧ s2 = s6 ∧ geT fr1 0 = v ∧ geT fr1 1 = .int .i64 (a : Nat) ∧ geT fr1 8 = .int .i64 (L : Nat) ∧ geT fr1 9 = pB B ∧ geT fr1 10 = .int .u64 (M : Nat) ∧ geT fr1 11 = .int .i64 (i : Nat) ∧ geT fr1 12 = .int .i64 (o : Nat)) ?_ ?_)
    · intro R' hR'
      refine W_if e45 (fun h => ?_) (fun h => W_skip (hR' _ _ ⟨c, by omega, rfl, e0, e1, e8, e9, e10, e11, e12⟩))
      have ec : ((c : Nat) : Int) - ((L : Nat) : Int) = ((c - L : Nat) : Int) := by omega
      refine W_ops [0, 1, 8, 9, 10, 11, 12] ?_
      simp only [o88_9, WO_bin, WO_move, bin_sub, WO_nil, PureK_some, geT_put, evO_tmp, keep_nil, keep_cons, keepK_eq, Nat.reduceEqDiff, ↓reduceIte, eq_self, e0, e1, e8, e9, e10, e11, e12, ec, wrap_i64 (n := ((c - L : Nat) : Int)) (by omega) (by omega)]
      clear e0 e1 e8 e9 e10 e11 e12 e45
      intro fr e0 e1 e8 e9 e10 e11 e12
      exact hR' _ _ ⟨c - L, by omega, rfl, e0, e1, e8, e9, e10, e11, e12⟩
    clear e0 e1 e8 e9 e10 e11 e12 e45 fr
    rintro fr _ ⟨o, ho1, rfl, e0, e1, e8, e9, e10, e11, e12⟩
    refine SeqK_n ?_
    have eo : ((a : Nat) : Int) + ((o : Nat) : Int) = ((a + o : Nat) : Int) := by omega
    obtain ⟨A1, L1⟩ := own_ld H2.up1 hds (i := i) (by omega)
    obtain ⟨A2, L2⟩ := own_ld H2.up1 hds (i := a + o) (by omega)
    obtain ⟨s3, s4, st1, st2, H4⟩ := H2.up1.swp hds (i := i) (j := a + o) (by omega) (by omega)
    refine W_draw0 [0, 1, 8, 9, 10, 11] rfl ?_
    simp only [d88_10, WD_addrSl, WD_bin, WD_load, WD_move, WD_store, bin_add, WD_nil, DPureK_some, DReadK_some, DActK_some, pastR_nil, preHead_nil, preHead_cons, joinF_nil, joinAll_nil, setH_self, Nat.testBit, Nat.reduceShiftRight, Nat.reduceAnd, Nat.reduceBneDiff, List.all_nil, List.all_cons, List.filter_nil, List.filter_cons, geT_put, puT_none, evO_tmp, keep_nil, keep_cons, keepK_eq, Nat.reduceEqDiff, Nat.reduceAdd, ↓reduceIte, Bool.not_true, Bool.and_true, Bool.true_or, eq_self, Bool.false_eq_true, true_and, Nat.zero_add, e0, e1, e8, e9, e10, e11, e12, eo, wrap_i64 (n := ((a + o : Nat) : Int)) (by omega) (by omega), A1, A2, L1, L2, st1, st2]
    clear e0 e1 e8 e9 e10 e11 e12
    intro fr e0 e1 e8 e9 e10 e11
    refine BlkK_n (SeqK_n ?_)
    refine W_ops [0, 1, 8, 9, 10, 11] ?_
    simp only [o88_11, WO_bin, WO_move, bin_add, WO_nil, PureK_some, geT_put, evO_tmp, evO_const, keep_nil, keep_cons, keepK_eq, Nat.reduceEqDiff, ↓reduceIte, eq_self, e0, e1, e8, e9, e10, e11, wrap_i64 (n := (i : Int) + 1) (by omega) (by omega)]
    clear e0 e1 e8 e9 e10 e11
    intro fr e0 e1 e8 e9 e10 e11
    exact LoopK_n (m' := m - 1) (by omega) ⟨i + 1, y, _, by omega, by omega, e0, e1, e8, e9, e10, by rw [e11]; rfl, permIn_trans _ _ _ _ _ hP (swp_permIn _ _ _ _ _ (by omega) (by omega) (by omega) (by omega) (by omega)), H4.up1⟩
  · exact LoopK_x (BlkK_e (Ret0n ⟨d', hP, H.tail⟩))

set_option maxHeartbeats 1000000 in
theorem run90 {X : Ctx} (hX : X.fns = fnsOf Try.prog) (ho : ∀ f args, f ≠ 10 ∧ f ≠ 24 → X.orc f args = none) {s0 s : Mm} {l : List HP} {v cv : Value} {n a b : Nat} {d : Array UInt64} (H : Hold s0 s (HP.own 1 v n (flA d) :: l)) (hn : d.size = n) (hab : a < b) (hb : b ≤ n) (hn2 : n ≤ 1152921504606846976) :
    CallP X 90 [v, .int .i64 (a : Nat), .int .i64 (b : Nat), cv] s (fun _ s' => ∃ d', PermIn a b d d' ∧ Hold s0 s' (HP.own 1 v n (flA d') :: l)) := by
  have i0 : ((b : Nat) : Int) - 1 = ((b - 1 : Nat) : Int) := by omega
  refine CallP_of (hX ▸ ir90_eq) (ho _ _ (by decide)) (Nat.le_of_ble_eq_true rfl) ?_
  refine W_seq (W_ops [0, 2, 8] ?_)
  simp only [o90_0, WO_move, WO_nil, geT_put, frame_nil, frame_cons, evO_tmp, keep_nil, keep_cons, keepK_eq, Nat.reduceEqDiff, Nat.reduceAdd, ↓reduceIte, eq_self, Nat.zero_add]
  intro fr e0 e2 e8
  refine SeqK_n ?_
  refine W_seq (W_ops [0, 8, 9] ?_)
  simp only [o90_1, WO_bin, WO_move, bin_sub, WO_nil, PureK_some, geT_put, evO_tmp, evO_const, keep_nil, keep_cons, keepK_eq, Nat.reduceEqDiff, ↓reduceIte, eq_self, e0, e2, e8, i0, wrap_i64 (n := ((b - 1 : Nat) : Int)) (by omega) (by omega)]
  clear e0 e2 e8
  intro fr e0 e8 e9
  refine SeqK_n ?_
  refine W_block (W_loop (fun m fr s1 => ∃ (i j : Nat) (d' : Array UInt64), j - i ≤ m ∧ a ≤ i ∧ j < b ∧ i ≤ b ∧ geT fr 0 = v ∧ geT fr 8 = .int .i64 (i : Nat) ∧ geT fr 9 = .int .i64 (j : Nat) ∧ PermIn a b d d' ∧
    Hold s0 s1 (HP.own 1 v n (flA d') :: l)) b ⟨_, _, d, by omega, Nat.le_refl _, by omega, by omega, e0, e8, e9, permIn_refl _ _ _, H⟩ ?_)
  clear e0 e8 e9 fr H
  rintro m fr s1 ⟨i, j, d', hm, hi, hj, hi2, e0, e8, e9, hP, H⟩
  have hds : d'.size = n := by rw [hP.1]; exact hn
  refine W_assoc ?_
  refine W_seq (W_ops [0, 8, 9, 15] ?_)
  simp only [o90_3, WO_bin, WO_move, bin_lss, WO_nil, PureK_some, geT_put, evO_tmp, keep_nil, keep_cons, keepK_eq, Nat.reduceEqDiff, ↓reduceIte, eq_self, e0, e8, e9]
  clear e0 e8 e9
  intro fr e0 e8 e9 e15
  refine SeqK_n ?_
  refine W_while e15 (fun hlt => ?_) (fun hlt => ?_)
  · refine W_block ?_
    obtain ⟨A1, L1⟩ := own_ld H hds (i := i) (by omega)
    obtain ⟨A2, L2⟩ := own_ld H hds (i := j) (by omega)
    obtain ⟨s3, s4, st1, st2, H4⟩ := H.swp hds (i := i) (j := j) (by omega) (by omega)
    refine W_seq (W_draw0 [0, 8, 9] rfl ?_)
    simp only [d90_4, WD_addrSl, WD_load, WD_move, WD_store, WD_nil, DPureK_some, DReadK_some, DActK_some, pastR_nil, preHead_nil, preHead_cons, joinF_nil, joinAll_nil, setH_self, Nat.testBit, Nat.reduceShiftRight, Nat.reduceAnd, Nat.reduceBneDiff, List.all_nil, List.all_cons, List.filter_nil, List.filter_cons, geT_put, puT_none, evO_tmp, keep_nil, keep_cons, keepK_eq, Nat.reduceEqDiff, Nat.reduceAdd, ↓reduceIte, Bool.not_true, Bool.and_true, Bool.true_or, eq_self, Bool.false_eq_true, true_and, Nat.zero_add, e0, e8, e9, A1, A2, L1, L2, st1, st2]
    clear e0 e8 e9 e15
    intro fr e0 e8 e9
    refine SeqK_n ?_
    have j0 : ((j : Nat) : Int) - 1 = ((j - 1 : Nat) : Int) := by omega
    refine W_seq (W_ops [0, 8, 9] ?_)
    simp only [o90_5, WO_bin, WO_move, bin_add, WO_nil, PureK_some, geT_put, evO_tmp, evO_const, keep_nil, keep_cons, keepK_eq, Nat.reduceEqDiff, ↓reduceIte, eq_self, e0, e8, e9, wrap_i64 (n := (i : Int) + 1) (by omega) (by omega)]
    clear e0 e8 e9
    intro fr e0 e8 e9
    refine SeqK_n ?_
    refine W_ops [0, 8, 9] ?_
    simp only [o90_6, WO_bin, WO_move, bin_sub, WO_nil, PureK_some, geT_put, evO_tmp, evO_const, keep_nil, keep_cons, keepK_eq, Nat.reduceEqDiff, ↓reduceIte, eq_self, e0, e8, e9, j0, wrap_i64 (n := ((j - 1 : Nat) : Int)) (by omega) (by omega)]
    clear e0 e8 e9
    intro fr e0 e8 e9
    refine BlkK_n ?_
    exact LoopK_n (m' := j - 1 - (i + 1)) (by omega) ⟨i + 1, j - 1, _, Nat.le_refl _, by omega, by omega, by omega, e0, by rw [e8]; rfl, e9, permIn_trans _ _ _ _ _ hP (swp_permIn _ _ _ _ _ (by omega) (by omega) (by omega) (by omega) (by omega)), H4⟩
  · exact LoopK_x (BlkK_e (Ret0n ⟨d', hP, H⟩))

end Go.Proofs.Ytfjdihfflghfpaa
