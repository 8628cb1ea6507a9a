/- Sorting, walked: the pivot. -/
import Derived.Test.YtpphomoijlilfaaGA
import Derived.Test.YtpphomoijlilfaaGsIr
import Derived.Test.YtpphomoijlilfaaIRA
namespace Go.Proofs.Ytpphomoijlilfaa
open Go Go.Vam Go.Sort
variable {α : Type} [Inhabited α]
def pB (B : Nat) : Value := .pointer (some ⟨B, 0, none⟩)
theorem run87 {X : Ctx} (hX : X.fns = fnsOf Try.prog) (ho : ∀ f args, f ≠ 15 ∧ f ≠ 38 → X.orc f args = none) {eV : α → Value} {eC : α → List Value} (hE : El 3 (some 3) eV eC) {lt : α → α → Bool} {C : FuncId} {s0 : Mm} {L0 : List HP} {Q : Prop} (hc : ∀ (s : Mm) (l' : List HP) (x y : α), Hold s0 s l' → (∀ P ∈ L0, P ∈ l') → Q → CallP X C [eV x, eV y] s (fun r s' => ∃ z, r = .int .i64 z ∧ decide (z < 0) = lt x y ∧ s = s')) {s : Mm} {l : List HP} (hMem : ∀ P ∈ L0, P ∈ l) {Bp : Nat} {k : Int} {v : Value} {n a b : Nat} {d : Array α} (hQok : 0 < n → Q) (H : Hold s0 s (HP.cell Bp [.int .i64 k] :: HP.own 3 v n (flE eC d) :: l)) (hn : d.size = n) (ha : a < n) (hb : b < n) (hk : 0 ≤ k ∧ k ≤ 1000) :
    CallP X 87 [v, .int .i64 (a : Nat), .int .i64 (b : Nat), pB Bp, cmpV C] s (fun r s' => ∃ (x y : Nat) (k' : Int), r = .tuple #[.int .i64 (x : Nat), .int .i64 (y : Nat)] ∧ (x = a ∧ y = b ∨ x = b ∧ y = a) ∧ (0 ≤ k' ∧ k' ≤ k + 1) ∧ Hold s0 s' (HP.cell Bp [.int .i64 k'] :: HP.own 3 v n (flE eC d) :: l)) := by
  refine CallP_of (hX ▸ ir87_eq) (ho _ _ (by decide)) (Nat.le_of_ble_eq_true rfl) ?_
  refine qak (qan [0, 1, 2, 3, 4] ?_)
  simp only [o87_0, qah, qaj, qad, frame_nil, qbc, qae, qab, qaa, qac, Nat.reduceEqDiff, Nat.reduceAdd, ↓reduceIte, eq_self, Nat.zero_add]
  intro fr e0 e1 e2 e3 e4
  refine qai ?_
  obtain ⟨A1, L1⟩ := own_ld hE H.up1 hn ha
  obtain ⟨A2, L2⟩ := own_ld hE H.up1 hn hb
  have hcv : cmpV C = .func (.func C) #[] #[] := rfl
  have hpB : pB Bp = .pointer (some ⟨Bp, 0, none⟩) := rfl
  rw [hcv] at e4
  rw [hpB] at e3
  refine qau ?_
  refine qak (qbb [1, 2, 3, 22] rfl ?_)
  simp only [d87_1, qay, WD_load, qba, WD_callT, DFunK_0, qam, qas, qaw, qar, qap, qad, qaf, List.map_cons, List.map_nil, Nat.reduceEqDiff, Nat.reduceAdd, ↓reduceIte, eq_self, true_and, Nat.zero_add, e0, e1, e2, e4, A1, L1, A2, L2]
  refine DCallK_of rfl (hc _ _ _ _ (by assumption) (fun P hP => by simp [hMem P hP]) (hQok (by omega))) ?_
  rintro _ _ ⟨z, rfl, hz, rfl⟩
  simp only [WD_bin, bin_lss, WD_nil, qam, qar, qaq, qap, Nat.testBit, Nat.reduceShiftRight, Nat.reduceAnd, Nat.reduceBneDiff, List.all_nil, List.all_cons, List.filter_nil, List.filter_cons, qad, qaf, qae, qab, qaa, qac, Nat.reduceEqDiff, Nat.reduceAdd, ↓reduceIte, Bool.not_true, Bool.and_true, Bool.true_or, eq_self, Bool.false_eq_true, true_and, e1, e2, e3]
  clear e0 e1 e2 e3 e4
  intro fr e1 e2 e3 e22
  refine qai ?_
  by_cases h0 : z < 0
  · refine qak (W_if e22 (fun _ => ?_) (fun h => absurd h0 h))
    have lk : loadV s none (.pointer (some ⟨Bp, 0, none⟩)) = some (.int .i64 k) := load_g (o := 0) (H.cell (List.mem_cons_self ..))
    have st : storeV s 1 (.pointer (some ⟨Bp, 0, none⟩)) (.int .i64 (k + 1)) = some (undefV, setBlk s Bp (.cells [.int .i64 (k + 1)] false)) := store_g (cs := [.int .i64 k]) (H.cell (List.mem_cons_self ..)) rfl Nat.zero_lt_one
    have H2 := H.setc (cs' := [.int .i64 (k + 1)])
    refine qak (qan [1, 2] ?_)
    simp only [o87_2, qao, WO_load, qah, WO_nilCheck, nilCheck_p, WO_store, qax, qaj, qag, MemK_some, qad, puT_none, qaf, qae, qab, qaa, qac, Nat.reduceEqDiff, ↓reduceIte, eq_self, e1, e2, e3, lk, st, qal (n := k + 1) (by omega) (by omega)]
    clear e1 e2 e3 e22
    intro fr e1 e2
    refine qai ?_
    refine qak (qan [10, 11] ?_)
    simp only [o87_3, qah, qaj, qad, qaf, qab, qaa, qac, Nat.reduceEqDiff, ↓reduceIte, eq_self, e1, e2]
    clear e1 e2
    intro fr e10 e11
    refine qai ?_
    exact W_ret (SeqK_r (Ret2 e10 e11 ⟨b, a, k + 1, rfl, .inr ⟨rfl, rfl⟩, by omega, H2⟩))
  · refine qak (W_if e22 (fun h => absurd h h0) (fun _ => W_skip (qai ?_)))
    refine qak (qan [10, 11] ?_)
    simp only [o87_4, qah, qaj, qad, qaf, qab, qaa, qac, Nat.reduceEqDiff, ↓reduceIte, eq_self, e1, e2]
    clear e1 e2 e3 e22
    intro fr e10 e11
    refine qai ?_
    exact W_ret (Ret2 e10 e11 ⟨a, b, k, rfl, .inl ⟨rfl, rfl⟩, by omega, H⟩)
theorem run83 {X : Ctx} (hX : X.fns = fnsOf Try.prog) (ho : ∀ f args, f ≠ 15 ∧ f ≠ 38 → X.orc f args = none) {eV : α → Value} {eC : α → List Value} (hE : El 3 (some 3) eV eC) {lt : α → α → Bool} {C : FuncId} {s0 : Mm} {L0 : List HP} {Q : Prop} (hc : ∀ (s : Mm) (l' : List HP) (x y : α), Hold s0 s l' → (∀ P ∈ L0, P ∈ l') → Q → CallP X C [eV x, eV y] s (fun r s' => ∃ z, r = .int .i64 z ∧ decide (z < 0) = lt x y ∧ s = s')) {s : Mm} {l : List HP} (hMem : ∀ P ∈ L0, P ∈ l) {Bp : Nat} {k : Int} {v : Value} {n a b c : Nat} {d : Array α} (hQok : 0 < n → Q) (H : Hold s0 s (HP.cell Bp [.int .i64 k] :: HP.own 3 v n (flE eC d) :: l)) (hn : d.size = n) (ha : a < n) (hb : b < n) (hcn : c < n) (hk : 0 ≤ k ∧ k ≤ 900) :
    CallP X 83 [v, .int .i64 (a : Nat), .int .i64 (b : Nat), .int .i64 (c : Nat), pB Bp, cmpV C] s (fun r s' => ∃ (x : Nat) (k' : Int), r = .int .i64 (x : Nat) ∧ (x = a ∨ x = b ∨ x = c) ∧ (0 ≤ k' ∧ k' ≤ k + 3) ∧ Hold s0 s' (HP.cell Bp [.int .i64 k'] :: HP.own 3 v n (flE eC d) :: l)) := by
  refine CallP_of (hX ▸ ir83_eq) (ho _ _ (by decide)) (Nat.le_of_ble_eq_true rfl) ?_
  refine qak (qan [0, 1, 2, 3, 4, 5] ?_)
  simp only [o83_0, qah, qaj, qad, frame_nil, qbc, qae, qab, qaa, qac, Nat.reduceEqDiff, Nat.reduceAdd, ↓reduceIte, eq_self, Nat.zero_add]
  intro fr e0 e1 e2 e3 e4 e5
  refine qai ?_
  refine qak (qan [0, 1, 2, 3, 4, 5] ?_)
  simp only [o83_1, WO_call, qah, qad, qaf, List.map_cons, List.map_nil, Nat.reduceEqDiff, ↓reduceIte, eq_self, e0, e1, e2, e4, e5]
  refine CallK_of (run87 hX ho hE hc (fun P hP => by simp [hMem P hP]) hQok H hn ha hb (by omega)) ?_
  rintro _ s1 ⟨x1, y1, k1, rfl, h1, hk1, H1⟩
  simp only [WO_extract, ext_20, ext_21, qah, qaj, qag, qad, qaf, qab, qaa, qac, Nat.reduceEqDiff, ↓reduceIte, eq_self, e0, e3, e4, e5]
  clear e0 e1 e2 e3 e4 e5
  intro fr e0 e1 e2 e3 e4 e5
  refine qai ?_
  refine qak (qan [0, 1, 2, 4, 5] ?_)
  simp only [o83_2, WO_call, qah, qad, qaf, List.map_cons, List.map_nil, Nat.reduceEqDiff, ↓reduceIte, eq_self, e0, e2, e3, e4, e5]
  refine CallK_of (run87 hX ho hE hc (fun P hP => by simp [hMem P hP]) hQok H1 hn (by omega) hcn (by omega)) ?_
  rintro _ s2 ⟨x2, y2, k2, rfl, h2, hk2, H2⟩
  simp only [WO_extract, ext_20, ext_21, qah, qaj, qag, qad, qaf, qab, qaa, qac, Nat.reduceEqDiff, ↓reduceIte, eq_self, e0, e1, e4, e5]
  clear e0 e1 e2 e3 e4 e5
  intro fr e0 e1 e2 e4 e5
  refine qai ?_
  refine qak (qan [2] ?_)
  simp only [o83_3, WO_call, qah, qad, qaf, List.map_cons, List.map_nil, Nat.reduceEqDiff, ↓reduceIte, eq_self, e0, e1, e2, e4, e5]
  refine CallK_of (run87 hX ho hE hc (fun P hP => by simp [hMem P hP]) hQok H2 hn (by omega) (by omega) (by omega)) ?_
  rintro _ s3 ⟨x3, y3, k3, rfl, h3, hk3, H3⟩
  simp only [WO_extract, ext_20, ext_21, qah, qaj, qag, qad, qaf, qab, qaa, qac, Nat.reduceEqDiff, ↓reduceIte, eq_self]
  clear e0 e1 e2 e4 e5
  intro fr e2
  refine qai ?_
  refine qak (qan [12] ?_)
  simp only [o83_4, qah, qaj, qad, qaf, qab, qaa, qac, ↓reduceIte, eq_self, e2]
  clear e2
  intro fr e12
  refine qai ?_
  exact W_ret (Ret1 e12 ⟨y3, k3, rfl, by omega, by omega, H3⟩)
theorem run82 {X : Ctx} (hX : X.fns = fnsOf Try.prog) (ho : ∀ f args, f ≠ 15 ∧ f ≠ 38 → X.orc f args = none) {eV : α → Value} {eC : α → List Value} (hE : El 3 (some 3) eV eC) {lt : α → α → Bool} {C : FuncId} {s0 : Mm} {L0 : List HP} {Q : Prop} (hc : ∀ (s : Mm) (l' : List HP) (x y : α), Hold s0 s l' → (∀ P ∈ L0, P ∈ l') → Q → CallP X C [eV x, eV y] s (fun r s' => ∃ z, r = .int .i64 z ∧ decide (z < 0) = lt x y ∧ s = s')) {s : Mm} {l : List HP} (hMem : ∀ P ∈ L0, P ∈ l) {Bp : Nat} {k : Int} {v : Value} {n a : Nat} {d : Array α} (hQok : 0 < n → Q) (H : Hold s0 s (HP.cell Bp [.int .i64 k] :: HP.own 3 v n (flE eC d) :: l)) (hn : d.size = n) (ha : 1 ≤ a ∧ a + 1 < n) (hn2 : n ≤ 4611686018427387904) (hk : 0 ≤ k ∧ k ≤ 900) :
    CallP X 82 [v, .int .i64 (a : Nat), pB Bp, cmpV C] s (fun r s' => ∃ (x : Nat) (k' : Int), r = .int .i64 (x : Nat) ∧ (a - 1 ≤ x ∧ x ≤ a + 1) ∧ (0 ≤ k' ∧ k' ≤ k + 3) ∧ Hold s0 s' (HP.cell Bp [.int .i64 k'] :: HP.own 3 v n (flE eC d) :: l)) := by
  have i1 : ((a : Nat) : Int) - 1 = ((a - 1 : Nat) : Int) := by omega
  have i2 : ((a : Nat) : Int) + 1 = ((a + 1 : Nat) : Int) := by omega
  refine CallP_of (hX ▸ ir82_eq) (ho _ _ (by decide)) (Nat.le_of_ble_eq_true rfl) ?_
  refine qak (qan [0, 1, 2, 3] ?_)
  simp only [o82_0, qah, qaj, qad, frame_nil, qbc, qae, qab, qaa, qac, Nat.reduceEqDiff, Nat.reduceAdd, ↓reduceIte, eq_self, Nat.zero_add]
  intro fr e0 e1 e2 e3
  refine qai ?_
  refine qak (qan [8] ?_)
  simp only [o82_1, qao, WO_call, qah, qax, qbd, qag, qad, qaf, qae, List.map_cons, List.map_nil, Nat.reduceEqDiff, ↓reduceIte, eq_self, e0, e1, e2, e3, i1, i2, qal (n := ((a - 1 : Nat) : Int)) (by omega) (by omega), qal (n := ((a + 1 : Nat) : Int)) (by omega) (by omega)]
  refine CallK_of (run83 hX ho hE hc (fun P hP => by simp [hMem P hP]) hQok H hn (a := a - 1) (b := a) (c := a + 1) (by omega) (by omega) (by omega) hk) ?_
  rintro _ s1 ⟨x1, k1, rfl, h1, hk1, H1⟩
  simp only [qah, qaj, qad, qaf, qab, qaa, qac, ↓reduceIte, eq_self]
  clear e0 e1 e2 e3
  intro fr e8
  refine qai ?_
  exact W_ret (Ret1 e8 ⟨x1, k1, rfl, by omega, hk1, H1⟩)
end Go.Proofs.Ytpphomoijlilfaa

/- Sorting, walked: numbers drawn at random; patterns broken; the pivot chosen. -/
namespace Go.Proofs.Ytpphomoijlilfaa
open Go Go.Vam Go.Sort
variable {α : Type} [Inhabited α]
theorem wrap_u64_in (n : Int) : 0 ≤ wrapK .u64 n ∧ wrapK .u64 n < 18446744073709551616 := by
  rw [wrapK_eq]; simp [IntKind.wrap, IntKind.bits, IntKind.signed]; omega
theorem xor_u64 (x y : Int) : ∃ c, intBitsV .xor .u64 x y = some c ∧ 0 ≤ c ∧ c < 18446744073709551616 := ⟨_, rfl, wrap_u64_in _⟩
theorem and_u64 (x : Int) {m : Nat} (hm : m < 18446744073709551616) : ∃ c : Nat, intBitsV .and .u64 x ((m : Nat) : Int) = some ((c : Nat) : Int) ∧ c ≤ m := by
  have e : (BitVec.ofInt 64 ((m : Nat) : Int)).toNat = m := by
    rw [BitVec.ofInt_natCast, BitVec.toNat_ofNat]; omega
  have h : (BitVec.ofInt 64 x &&& BitVec.ofInt 64 ((m : Nat) : Int)).toNat ≤ m := by
    rw [BitVec.toNat_and, e]; exact Nat.and_le_right
  exact ⟨_, congrArg some (Vam.wrap_u64 (n := (((BitVec.ofInt 64 x &&& BitVec.ofInt 64 ((m : Nat) : Int)).toNat : Nat) : Int)) (by omega) (by omega)), h⟩
theorem bl_shift {x k : Nat} (h : 2 ^ k ≤ x) : bitsLen x = bitsLen (x / 2 ^ k) + k := by
  have hx : x ≠ 0 := by have := Nat.two_pow_pos k; omega
  have hq : 0 < x / 2 ^ k := Nat.div_pos h (Nat.two_pow_pos k)
  unfold bitsLen
  rw [if_neg hx, if_neg (by omega)]
  have h1 : 2 ^ (Nat.log2 (x / 2 ^ k) + k) ≤ x := by
    rw [Nat.pow_add]
    exact Nat.le_trans (Nat.mul_le_mul_right _ (Nat.log2_self_le (by omega))) (Nat.div_mul_le_self _ _)
  have h2 : x < 2 ^ (Nat.log2 (x / 2 ^ k) + 1 + k) := by
    rw [Nat.pow_add]
    exact (Nat.div_lt_iff_lt_mul (Nat.two_pow_pos k)).1 Nat.lt_log2_self
  have h3 := (Nat.le_log2 hx).2 h1
  have h4 := (Nat.log2_lt hx).2 h2
  omega
theorem bl_bounds {x : Nat} (h : 0 < x) : x < 2 ^ bitsLen x ∧ 2 ^ bitsLen x ≤ 2 * x := by
  unfold bitsLen
  rw [if_neg (by omega)]
  refine ⟨Nat.lt_log2_self, ?_⟩
  rw [Nat.pow_succ, Nat.mul_comm]
  exact Nat.mul_le_mul_left 2 (Nat.log2_self_le (by omega))
theorem bl_le {x k : Nat} (h : x < 2 ^ k) : bitsLen x ≤ k := by
  unfold bitsLen
  split
  · omega
  · rename_i h0
    have := (Nat.log2_lt h0).2 h
    omega
set_option maxHeartbeats 1000000 in
theorem run64 {X : Ctx} (hX : X.fns = fnsOf Try.prog) (ho : ∀ f args, f ≠ 15 ∧ f ≠ 38 → X.orc f args = none) {eV : α → Value} {eC : α → List Value} (hE : El 3 (some 3) eV eC) {lt : α → α → Bool} {C : FuncId} {s0 : Mm} {L0 : List HP} {Q : Prop} (hc : ∀ (s : Mm) (l' : List HP) (x y : α), Hold s0 s l' → (∀ P ∈ L0, P ∈ l') → Q → CallP X C [eV x, eV y] s (fun r s' => ∃ z, r = .int .i64 z ∧ decide (z < 0) = lt x y ∧ s = s')) {s : Mm} {l : List HP} (hMem : ∀ P ∈ L0, P ∈ l) {v : Value} {n a b : Nat} {d : Array α} (hQok : 0 < n → Q) (H : Hold s0 s (HP.own 3 v n (flE eC d) :: l)) (hn : d.size = n) (hab : a + 12 < b) (hb : b ≤ n) (hn2 : n ≤ 1152921504606846976) :
    CallP X 64 [v, .int .i64 (a : Nat), .int .i64 (b : Nat), cmpV C] s (fun r s' => ∃ (p : Nat) (h : Int), r = .tuple #[.int .i64 (p : Nat), .int .i64 h] ∧ (a ≤ p ∧ p < b) ∧ Hold s0 s' (HP.own 3 v n (flE eC d) :: l)) := by
  obtain ⟨L, hL⟩ : ∃ L, L = b - a := ⟨_, rfl⟩
  have i0 : ((b : Nat) : Int) - ((a : Nat) : Int) = ((L : Nat) : Int) := by omega
  obtain ⟨q, hq⟩ : ∃ q, q = L / 4 := ⟨_, rfl⟩
  have i1 : ((L : Nat) : Int).tdiv 4 = ((q : Nat) : Int) := by rw [hq, Int.tdiv_eq_ediv_of_nonneg (by omega)]; omega
  have m1 : ((q : Nat) : Int) * 1 = ((q : Nat) : Int) := by omega
  have m2 : ((q : Nat) : Int) * 2 = ((q * 2 : Nat) : Int) := by omega
  have m3 : ((q : Nat) : Int) * 3 = ((q * 3 : Nat) : Int) := by omega
  have j1 : ((a : Nat) : Int) + ((q : Nat) : Int) = ((a + q : Nat) : Int) := by omega
  have j2 : ((a : Nat) : Int) + ((q * 2 : Nat) : Int) = ((a + q * 2 : Nat) : Int) := by omega
  have j3 : ((a : Nat) : Int) + ((q * 3 : Nat) : Int) = ((a + q * 3 : Nat) : Int) := by omega
  have w0 := qal (n := ((L : Nat) : Int)) (by omega) (by omega)
  have w1 := qal (n := ((q : Nat) : Int)) (by omega) (by omega)
  have w2 := qal (n := ((q * 2 : Nat) : Int)) (by omega) (by omega)
  have w3 := qal (n := ((q * 3 : Nat) : Int)) (by omega) (by omega)
  have u1 := qal (n := ((a + q : Nat) : Int)) (by omega) (by omega)
  have u2 := qal (n := ((a + q * 2 : Nat) : Int)) (by omega) (by omega)
  have u3 := qal (n := ((a + q * 3 : Nat) : Int)) (by omega) (by omega)
  refine CallP_of (hX ▸ ir64_eq) (ho _ _ (by decide)) (Nat.le_of_ble_eq_true rfl) ?_
  refine qak (qan [0, 1, 2, 3] ?_)
  simp only [o64_0, qah, qaj, qad, frame_nil, qbc, qae, qab, qaa, qac, Nat.reduceEqDiff, Nat.reduceAdd, ↓reduceIte, eq_self, Nat.zero_add]
  intro fr e0 e1 e2 e3
  refine qai ?_
  refine qak (qan [0, 1, 3, 10] ?_)
  simp only [o64_1, qao, qah, qbd, qaj, qag, qad, qaf, qab, qaa, qac, Nat.reduceEqDiff, ↓reduceIte, eq_self, e0, e1, e2, e3, i0, w0]
  clear e0 e1 e2 e3
  intro fr e0 e1 e3 e10
  refine qai ?_
  have H1 := H.new [.int .i64 0]
  refine qak (qan [0, 1, 3, 10, 11] ?_)
  simp only [o64_2, WO_alloc, qaj, qad, qab, qaa, qac, Nat.reduceEqDiff, ↓reduceIte, eq_self, e0, e1, e3, e10]
  clear e0 e1 e3 e10
  intro fr e0 e1 e3 e10 e11
  refine qai ?_
  obtain ⟨Bp, hBp⟩ : ∃ B, B = s.nxt := ⟨_, rfl⟩
  rw [← hBp] at H1 e11
  generalize newAt s (.cells [.int .i64 0] false) = s1 at H1 ⊢
  refine qak (qan [0, 1, 3, 10, 11, 12] ?_)
  simp only [o64_3, qao, qah, qax, bin_mul, bin_quo, qaj, qag, qad, qaf, qae, qab, qaa, qac, Nat.reduceEqDiff, ↓reduceIte, Int.reduceEq, eq_self, e0, e1, e3, e10, e11, i1, w1, m1, j1, u1]
  clear e0 e1 e3 e10 e11
  intro fr e0 e1 e3 e10 e11 e12
  refine qai ?_
  refine qak (qan [0, 1, 3, 10, 11, 12, 13] ?_)
  simp only [o64_4, qao, qah, qax, bin_mul, bin_quo, qaj, qag, qad, qaf, qae, qab, qaa, qac, Nat.reduceEqDiff, ↓reduceIte, Int.reduceEq, eq_self, e0, e1, e3, e10, e11, e12, i1, w1, m2, w2, j2, u2]
  clear e0 e1 e3 e10 e11 e12
  intro fr e0 e1 e3 e10 e11 e12 e13
  refine qai ?_
  refine qak (qan [0, 3, 10, 11, 12, 13, 14] ?_)
  simp only [o64_5, qao, qah, qax, bin_mul, bin_quo, qaj, qag, qad, qaf, qae, qab, qaa, qac, Nat.reduceEqDiff, ↓reduceIte, Int.reduceEq, eq_self, e0, e1, e3, e10, e11, e12, e13, i1, w1, m3, w3, j3, u3]
  clear e0 e1 e3 e10 e11 e12 e13
  intro fr e0 e3 e10 e11 e12 e13 e14
  refine qai ?_
  refine qau ?_
  refine qak (qan [0, 3, 10, 11, 12, 13, 14, 34] ?_)
  simp only [o64_6, qao, qah, bin_geq, qaj, qag, qad, qaf, qae, qab, qaa, qac, Nat.reduceEqDiff, ↓reduceIte, eq_self, e0, e3, e10, e11, e12, e13, e14, decide_eq_true (show (8 : Int) ≤ ((L : Nat) : Int) by omega)]
  clear e0 e3 e10 e11 e12 e13 e14
  intro fr e0 e3 e10 e11 e12 e13 e14 e34
  refine qai ?_
  refine qak (W_cond e34 (fun _ => ?_) (fun h => by cases h))
  refine qau ?_
  refine qak (qan [0, 3, 11, 12, 13, 14, 36] ?_)
  simp only [o64_7, qao, qah, bin_geq, qaj, qag, qad, qaf, qae, qab, qaa, qac, Nat.reduceEqDiff, ↓reduceIte, eq_self, e0, e3, e10, e11, e12, e13, e14]
  clear e0 e3 e10 e11 e12 e13 e14 e34
  intro fr e0 e3 e11 e12 e13 e14 e36
  refine qai ?_
  refine qak (W_cutN (fun fr1 s6 => ∃ (i j k : Nat) (z : Int), (a ≤ i ∧ i < b) ∧ (a ≤ j ∧ j < b) ∧ (a ≤ k ∧ k < b) ∧ (0 ≤ z ∧ z ≤ 9) ∧ geT fr1 0 = v ∧ geT fr1 3 = cmpV C ∧ geT fr1 11 = pB Bp ∧ geT fr1 12 = .int .i64 (i : Nat) ∧ geT fr1 13 = .int .i64 (j : Nat) ∧ geT fr1 14 = .int .i64 (k : Nat) ∧ Hold s0 s6 (HP.cell Bp [.int .i64 z] :: HP.own 3 v n (flE eC d) :: l)) ?_ ?_)
  · intro R' hR'
    refine W_if e36 (fun h50 => ?_) (fun h50 => W_skip (hR' _ _ ⟨a + q, a + q * 2, a + q * 3, 0, by omega, by omega, by omega, by omega, e0, e3, e11, e12, e13, e14, H1⟩))
    have hpB : Value.pointer (some ⟨Bp, 0, none⟩) = pB Bp := rfl
    rw [hpB] at e11
    refine qak (qan [0, 3, 11, 12, 13, 14] ?_)
    simp only [o64_8, WO_call, qah, qad, qaf, List.map_cons, List.map_nil, Nat.reduceEqDiff, ↓reduceIte, eq_self, e0, e3, e11, e12]
    refine CallK_of (run82 hX ho hE hc (fun P hP => by simp [hMem P hP]) hQok H1 hn (by omega) (by omega) (by omega)) ?_
    rintro _ s2 ⟨x1, k1, rfl, h1, hk1, H2⟩
    simp only [qah, qaj, qad, qaf, qab, qaa, qac, Nat.reduceEqDiff, ↓reduceIte, eq_self, e0, e3, e11, e13, e14]
    clear e0 e3 e11 e12 e13 e14 e36
    intro fr e0 e3 e11 e12 e13 e14
    refine qai ?_
    refine qak (qan [0, 3, 11, 12, 13, 14] ?_)
    simp only [o64_9, WO_call, qah, qad, qaf, List.map_cons, List.map_nil, Nat.reduceEqDiff, ↓reduceIte, eq_self, e0, e3, e11, e13]
    refine CallK_of (run82 hX ho hE hc (fun P hP => by simp [hMem P hP]) hQok H2 hn (by omega) (by omega) (by omega)) ?_
    rintro _ s3 ⟨x2, k2, rfl, h2, hk2, H3⟩
    simp only [qah, qaj, qad, qaf, qab, qaa, qac, Nat.reduceEqDiff, ↓reduceIte, eq_self, e0, e3, e11, e12, e14]
    clear e0 e3 e11 e12 e13 e14
    intro fr e0 e3 e11 e12 e13 e14
    refine qai ?_
    refine qan [0, 3, 11, 12, 13, 14] ?_
    simp only [o64_10, WO_call, qah, qad, qaf, List.map_cons, List.map_nil, Nat.reduceEqDiff, ↓reduceIte, eq_self, e0, e3, e11, e14]
    refine CallK_of (run82 hX ho hE hc (fun P hP => by simp [hMem P hP]) hQok H3 hn (by omega) (by omega) (by omega)) ?_
    rintro _ s4 ⟨x3, k3, rfl, h3, hk3, H4⟩
    simp only [qah, qaj, qad, qaf, qab, qaa, qac, Nat.reduceEqDiff, ↓reduceIte, eq_self, e0, e3, e11, e12, e13]
    clear e0 e3 e11 e12 e13 e14
    intro fr e0 e3 e11 e12 e13 e14
    exact hR' _ _ ⟨x1, x2, x3, k3, by omega, by omega, by omega, by omega, e0, e3, e11, e12, e13, e14, H4⟩
  clear e0 e3 e11 e12 e13 e14 e36 fr H1 hBp s1
  rintro fr s1 ⟨i, j, k, z, hi, hj, hk, hz, e0, e3, e11, e12, e13, e14, H1⟩
  refine qai ?_
  refine qan [11, 13] ?_
  simp only [o64_11, WO_call, qah, qad, qaf, List.map_cons, List.map_nil, Nat.reduceEqDiff, ↓reduceIte, eq_self, e0, e3, e11, e12, e13, e14]
  refine CallK_of (run83 hX ho hE hc (fun P hP => by simp [hMem P hP]) hQok H1 hn (by omega) (by omega) (by omega) (by omega)) ?_
  rintro _ s2 ⟨p, z2, rfl, hp, hz2, H2⟩
  simp only [qah, qaj, qad, qaf, qab, qaa, qac, Nat.reduceEqDiff, ↓reduceIte, eq_self, e11]
  clear e0 e3 e11 e12 e13 e14
  intro fr e11 e13
  refine qai ?_
  have hpB : pB Bp = .pointer (some ⟨Bp, 0, none⟩) := rfl
  rw [hpB] at e11
  have lz : loadV s2 none (.pointer (some ⟨Bp, 0, none⟩)) = some (.int .i64 z2) := load_g (o := 0) (H2.cell (List.mem_cons_self ..))
  have hpp : a ≤ p ∧ p < b := by omega
  refine qak (qan [13, 55] ?_)
  simp only [o64_12, WO_load, qaj, qag, qad, qaf, qab, qaa, qac, Nat.reduceEqDiff, ↓reduceIte, eq_self, e11, e13, lz]
  clear e11 e13
  intro fr e13 e55
  refine qai ?_
  refine qat ?_
  refine qak (qan [13, 55, 57] ?_)
  simp only [o64_13, qao, qah, bin_eql, qaj, qag, qad, qaf, qae, qab, qaa, qac, Nat.reduceEqDiff, ↓reduceIte, eq_self, e13, e55]
  clear e13 e55
  intro fr e13 e55 e57
  refine qai ?_
  refine W_if e57 (fun _ => ?_) (fun _ => ?_)
  · refine qak (qan [8, 9] ?_)
    simp only [o64_14, qah, qaj, qad, qaf, qae, qab, qaa, qac, Nat.reduceEqDiff, ↓reduceIte, eq_self, e13]
    clear e13 e55 e57
    intro fr e8 e9
    refine qai ?_
    exact W_ret (BlkK_r (Ret2 e8 e9 ⟨p, 1, rfl, hpp, H2.tail⟩))
  · skip
    refine qak (qan [13, 60] ?_)
    simp only [o64_15, qao, qah, bin_eql, qaj, qag, qad, qaf, qae, qab, qaa, qac, Nat.reduceEqDiff, ↓reduceIte, eq_self, e13, e55]
    clear e13 e55 e57
    intro fr e13 e60
    refine qai ?_
    refine W_if e60 (fun _ => ?_) (fun _ => ?_)
    · refine qak (qan [8, 9] ?_)
      simp only [o64_16, qah, qaj, qad, qaf, qae, qab, qaa, qac, Nat.reduceEqDiff, ↓reduceIte, eq_self, e13]
      clear e13 e60
      intro fr e8 e9
      refine qai ?_
      exact W_ret (BlkK_r (Ret2 e8 e9 ⟨p, 2, rfl, hpp, H2.tail⟩))
    · skip
      refine qak (qan [8, 9] ?_)
      simp only [o64_17, qah, qaj, qad, qaf, qae, qab, qaa, qac, Nat.reduceEqDiff, ↓reduceIte, eq_self, e13]
      clear e13 e60
      intro fr e8 e9
      refine qai ?_
      exact W_ret (BlkK_r (Ret2 e8 e9 ⟨p, 0, rfl, hpp, H2.tail⟩))
end Go.Proofs.Ytpphomoijlilfaa

/- Sorting, walked: the length of numbers in bits; numbers drawn at random; patterns broken; a part turned about. -/
namespace Go.Proofs.Ytpphomoijlilfaa
open Go Go.Vam Go.Sort
def lenTab : ByteArray := ⟨#[0, 1, 2, 2, 3, 3, 3, 3, 4, 4, 4, 4, 4, 4, 4, 4, 5, 5, 5, 5, 5, 5, 5, 5, 5, 5, 5, 5, 5, 5, 5, 5, 6, 6, 6, 6, 6, 6, 6, 6, 6, 6, 6, 6, 6, 6, 6, 6, 6, 6, 6, 6, 6, 6, 6, 6, 6, 6, 6, 6, 6, 6, 6, 6, 7, 7, 7, 7, 7, 7, 7, 7, 7, 7, 7, 7, 7, 7, 7, 7, 7, 7, 7, 7, 7, 7, 7, 7, 7, 7, 7, 7, 7, 7, 7, 7, 7, 7, 7, 7, 7, 7, 7, 7, 7, 7, 7, 7, 7, 7, 7, 7, 7, 7, 7, 7, 7, 7, 7, 7, 7, 7, 7, 7, 7, 7, 7, 7, 8, 8, 8, 8, 8, 8, 8, 8, 8, 8, 8, 8, 8, 8, 8, 8, 8, 8, 8, 8, 8, 8, 8, 8, 8, 8, 8, 8, 8, 8, 8, 8, 8, 8, 8, 8, 8, 8, 8, 8, 8, 8, 8, 8, 8, 8, 8, 8, 8, 8, 8, 8, 8, 8, 8, 8, 8, 8, 8, 8, 8, 8, 8, 8, 8, 8, 8, 8, 8, 8, 8, 8, 8, 8, 8, 8, 8, 8, 8, 8, 8, 8, 8, 8, 8, 8, 8, 8, 8, 8, 8, 8, 8, 8, 8, 8, 8, 8, 8, 8, 8, 8, 8, 8, 8, 8, 8, 8, 8, 8, 8, 8, 8, 8, 8, 8, 8, 8, 8, 8, 8, 8, 8, 8, 8, 8, 8, 8]⟩
set_option maxRecDepth 100000 in
theorem lenTab_all : ∀ k : Fin 256, lenTab.data.toList[k.val]? = some (UInt8.ofNat (bitsLen k.val)) := by decide +kernel
theorem bl_small {x : Nat} (h : x < 256) : bitsLen x ≤ 8 := bl_le (k := 8) h
theorem lenTab_at {x : Nat} (h : x < 256) : idxStrV (.string lenTab) (.int .u8 (x : Nat)) = some (.int .u8 (bitsLen x : Nat)) := by
  have h1 := lenTab_all ⟨x, h⟩
  have h2 := bl_small h
  show (if (0 : Int) ≤ (x : Nat) then (lenTab.data.toList[((x : Nat) : Int).toNat]?).map _ else none) = _
  rw [if_pos (by omega), Int.toNat_natCast, h1]
  show some (Value.int .u8 ((UInt8.ofNat (bitsLen x)).toNat : Nat)) = _
  rw [UInt8.toNat_ofNat']
  congr 3
  omega
theorem shr_u64 {x k : Nat} (hk : k < 64) : shiftV .shr .u64 (x : Nat) (k : Nat) = some ((x / 2 ^ k : Nat) : Int) := by
  unfold shiftV
  rw [if_neg (by omega)]
  have : min ((k : Nat) : Int).toNat IntKind.u64.bits = k := by rw [Int.toNat_natCast]; exact Nat.min_eq_left (by show k ≤ 64; omega)
  simp only [this]
  have e : (2 : Int) ^ k = ((2 ^ k : Nat) : Int) := by rw [Int.natCast_pow]; rfl
  rw [e, Int.fdiv_eq_ediv_of_nonneg _ (Int.natCast_nonneg _), Int.natCast_ediv]
theorem shr32 {x : Nat} : shiftV .shr .u64 (x : Nat) 32 = some ((x / 2 ^ 32 : Nat) : Int) := shr_u64 (k := 32) (by omega)
theorem shr16 {x : Nat} : shiftV .shr .u64 (x : Nat) 16 = some ((x / 2 ^ 16 : Nat) : Int) := shr_u64 (k := 16) (by omega)
theorem shr8 {x : Nat} : shiftV .shr .u64 (x : Nat) 8 = some ((x / 2 ^ 8 : Nat) : Int) := shr_u64 (k := 8) (by omega)
set_option maxRecDepth 100000 in
set_option maxHeartbeats 1000000 in
theorem run70 {X : Ctx} (hX : X.fns = fnsOf Try.prog) (ho : ∀ f args, f ≠ 15 ∧ f ≠ 38 → X.orc f args = none) {s : Mm} {x : Nat} (hx : x < 18446744073709551616) : CallP X 70 [.int .u64 (x : Nat)] s (fun r s' => r = .int .i64 (bitsLen x : Nat) ∧ s = s') := by
  refine CallP_of (hX ▸ ir70_eq) (ho _ _ (by decide)) (Nat.le_of_ble_eq_true rfl) ?_
  refine qak (qan [0, 2] ?_)
  simp only [o70_0, qah, qaj, qad, frame_nil, qbc, qae, qab, qaa, qac, Nat.reduceEqDiff, ↓reduceIte, eq_self, Nat.zero_add]
  intro fr e0 e2
  refine qai ?_
  refine qau ?_
  refine qak (qan [0, 2, 4] ?_)
  simp only [o70_1, qao, qah, bin_geq, qaj, qag, qad, qaf, qae, qab, qaa, qac, Nat.reduceEqDiff, ↓reduceIte, eq_self, e0, e2]
  clear e0 e2
  intro fr e0 e2 e4
  refine qai ?_
  refine qak (W_cutN (fun fr1 s6 => ∃ y n : Nat, y < 4294967296 ∧ n + bitsLen y = bitsLen x ∧ n ≤ 32 ∧ s = s6 ∧ geT fr1 0 = .int .u64 (y : Nat) ∧ geT fr1 2 = .int .i64 (n : Nat)) ?_ ?_)
  · intro R' hR'
    refine W_if e4 (fun h => ?_) (fun h => W_skip (hR' _ _ ⟨x, 0, by omega, by omega, by omega, rfl, e0, e2⟩))
    refine qak (qan [0] ?_)
    simp only [o70_2, qao, qah, bin_shr, qaj, qag, qad, qaf, qae, qab, qaa, qac, Option.map_some, ↓reduceIte, eq_self, e0, shr32]
    clear e0 e2 e4
    intro fr e0
    refine qai ?_
    refine qan [0, 2] ?_
    simp only [o70_3, qah, qaj, qad, qae, qab, qaa, qac, Nat.reduceEqDiff, ↓reduceIte, eq_self, e0]
    clear e0
    intro fr e0 e2
    exact hR' _ _ ⟨x / 2 ^ 32, 32, by omega, by rw [bl_shift (x := x) (k := 32) (by omega)]; omega, by omega, rfl, e0, e2⟩
  clear e0 e2 e4 fr
  rintro fr _ ⟨y, n, hy, hn, hn2, rfl, e0, e2⟩
  refine qai ?_
  refine qau ?_
  refine qak (qan [0, 2, 8] ?_)
  simp only [o70_4, qao, qah, bin_geq, qaj, qag, qad, qaf, qae, qab, qaa, qac, Nat.reduceEqDiff, ↓reduceIte, eq_self, e0, e2]
  clear e0 e2
  intro fr e0 e2 e8
  refine qai ?_
  refine qak (W_cutN (fun fr1 s6 => ∃ y n : Nat, y < 65536 ∧ n + bitsLen y = bitsLen x ∧ n ≤ 48 ∧ s = s6 ∧ geT fr1 0 = .int .u64 (y : Nat) ∧ geT fr1 2 = .int .i64 (n : Nat)) ?_ ?_)
  · intro R' hR'
    refine W_if e8 (fun h => ?_) (fun h => W_skip (hR' _ _ ⟨y, n, by omega, by omega, by omega, rfl, e0, e2⟩))
    refine qak (qan [0, 2] ?_)
    simp only [o70_5, qao, qah, bin_shr, qaj, qag, qad, qaf, qae, qab, qaa, qac, Option.map_some, Nat.reduceEqDiff, ↓reduceIte, eq_self, e0, e2, shr16]
    clear e0 e2 e8
    intro fr e0 e2
    refine qai ?_
    refine qan [0, 2] ?_
    simp only [o70_6, qao, qah, qax, qaj, qag, qad, qaf, qae, qab, qaa, qac, Nat.reduceEqDiff, ↓reduceIte, eq_self, e0, e2, qal (n := (n : Int) + 16) (by omega) (by omega)]
    clear e0 e2
    intro fr e0 e2
    exact hR' _ _ ⟨y / 2 ^ 16, n + 16, by omega, by have := bl_shift (x := y) (k := 16) (by omega); omega, by omega, rfl, e0, by rw [e2]; rfl⟩
  clear e0 e2 e8 fr hy hn hn2 y n
  rintro fr _ ⟨y, n, hy, hn, hn2, rfl, e0, e2⟩
  refine qai ?_
  refine qau ?_
  refine qak (qan [0, 2, 14] ?_)
  simp only [o70_7, qao, qah, bin_geq, qaj, qag, qad, qaf, qae, qab, qaa, qac, Nat.reduceEqDiff, ↓reduceIte, eq_self, e0, e2]
  clear e0 e2
  intro fr e0 e2 e14
  refine qai ?_
  refine qak (W_cutN (fun fr1 s6 => ∃ y n : Nat, y < 256 ∧ n + bitsLen y = bitsLen x ∧ n ≤ 56 ∧ s = s6 ∧ geT fr1 0 = .int .u64 (y : Nat) ∧ geT fr1 2 = .int .i64 (n : Nat)) ?_ ?_)
  · intro R' hR'
    refine W_if e14 (fun h => ?_) (fun h => W_skip (hR' _ _ ⟨y, n, by omega, by omega, by omega, rfl, e0, e2⟩))
    refine qak (qan [0, 2] ?_)
    simp only [o70_8, qao, qah, bin_shr, qaj, qag, qad, qaf, qae, qab, qaa, qac, Option.map_some, Nat.reduceEqDiff, ↓reduceIte, eq_self, e0, e2, shr8]
    clear e0 e2 e14
    intro fr e0 e2
    refine qai ?_
    refine qan [0, 2] ?_
    simp only [o70_9, qao, qah, qax, qaj, qag, qad, qaf, qae, qab, qaa, qac, Nat.reduceEqDiff, ↓reduceIte, eq_self, e0, e2, qal (n := (n : Int) + 8) (by omega) (by omega)]
    clear e0 e2
    intro fr e0 e2
    exact hR' _ _ ⟨y / 2 ^ 8, n + 8, by omega, by have := bl_shift (x := y) (k := 8) (by omega); omega, by omega, rfl, e0, by rw [e2]; rfl⟩
  clear e0 e2 e14 fr hy hn hn2 y n
  rintro fr _ ⟨y, n, hy, hn, hn2, rfl, e0, e2⟩
  refine qai ?_
  have hl := bl_small hy
  have ht := lenTab_at hy
  unfold lenTab at ht
  have ej : ((n : Nat) : Int) + ((bitsLen y : Nat) : Int) = ((bitsLen x : Nat) : Int) := by omega
  refine qak (qan [2] ?_)
  simp only [o70_10, qao, WO_conv, conv_int, WO_idxStr, qah, qax, qaj, qag, qad, qaf, qae, qab, qaa, qac, Nat.reduceEqDiff, ↓reduceIte, eq_self, e0, e2, wrap_u8 (n := ((y : Nat) : Int)) (by omega) (by omega), ht, qal (n := ((bitsLen y : Nat) : Int)) (by omega) (by omega), ej, qal (n := ((bitsLen x : Nat) : Int)) (by omega) (by omega)]
  clear e0 e2
  intro fr e2
  refine qai ?_
  exact W_ret (Ret1 e2 ⟨rfl, rfl⟩)
theorem run55 {X : Ctx} (hX : X.fns = fnsOf Try.prog) (ho : ∀ f args, f ≠ 15 ∧ f ≠ 38 → X.orc f args = none) {s : Mm} {x : Nat} (hx : x < 18446744073709551616) : CallP X 55 [.int .u64 (x : Nat)] s (fun r s' => r = .int .i64 (bitsLen x : Nat) ∧ s = s') := by
  refine CallP_of (hX ▸ ir55_eq) (ho _ _ (by decide)) (Nat.le_of_ble_eq_true rfl) ?_
  refine qak (qan [0] ?_)
  simp only [o55_0, qah, qaj, qad, frame_nil, qbc, qae, qab, qaa, qac, Nat.reduceEqDiff, ↓reduceIte, eq_self, Nat.zero_add]
  intro fr e0
  refine qai ?_
  refine qak (W_cond (b := false) rfl (fun h => by cases h) (fun _ => W_skip (qai ?_)))
  refine qak (qan [2] ?_)
  simp only [o55_2, WO_call, qah, qad, qaf, List.map_cons, List.map_nil, ↓reduceIte, eq_self, e0]
  refine CallK_of (run70 hX ho hx) ?_
  rintro _ _ ⟨rfl, rfl⟩
  simp only [qah, qaj, qad, qaf, qab, qaa, qac, ↓reduceIte, eq_self]
  clear e0
  intro fr e2
  refine qai ?_
  exact W_ret (Ret1 e2 ⟨rfl, rfl⟩)
theorem run80 {X : Ctx} (hX : X.fns = fnsOf Try.prog) (ho : ∀ f args, f ≠ 15 ∧ f ≠ 38 → X.orc f args = none) {s : Mm} {x : Nat} (h0 : 0 < x) (hx : x ≤ 1152921504606846976) : CallP X 80 [.int .i64 (x : Nat)] s (fun r s' => ∃ m : Nat, r = .int .u64 (m : Nat) ∧ x < m ∧ m ≤ 2 * x ∧ s = s') := by
  obtain ⟨b1, b2⟩ := bl_bounds h0
  have b3 := bl_le (x := x) (k := 61) (by omega)
  have hs : shiftV .shl .u64 1 ((bitsLen x : Nat) : Int) = some ((2 ^ bitsLen x : Nat) : Int) := by
    unfold shiftV
    rw [if_neg (by omega)]
    have : min ((bitsLen x : Nat) : Int).toNat IntKind.u64.bits = bitsLen x := by rw [Int.toNat_natCast]; exact Nat.min_eq_left (by show bitsLen x ≤ 64; omega)
    simp only [this]
    rw [Int.one_mul]
    have e : (2 : Int) ^ bitsLen x = ((2 ^ bitsLen x : Nat) : Int) := by rw [Int.natCast_pow]; rfl
    rw [e, Vam.wrap_u64 (by omega) (by omega)]
  refine CallP_of (hX ▸ ir80_eq) (ho _ _ (by decide)) (Nat.le_of_ble_eq_true rfl) ?_
  refine qak (qan [0] ?_)
  simp only [o80_0, qah, qaj, qad, frame_nil, qbc, qae, qab, qaa, qac, Nat.reduceEqDiff, ↓reduceIte, eq_self, Nat.zero_add]
  intro fr e0
  refine qai ?_
  refine qak (qan [2] ?_)
  simp only [o80_1, WO_call, WO_conv, conv_int, qah, qag, qad, qaf, List.map_cons, List.map_nil, ↓reduceIte, eq_self, e0, wrap_u64 (n := ((x : Nat) : Int)) (by omega) (by omega)]
  refine CallK_of (run55 hX ho (by omega)) ?_
  rintro _ _ ⟨rfl, rfl⟩
  simp only [qao, qah, bin_shl, qaj, qag, qad, qaf, qae, qab, qaa, qac, Option.map_some, ↓reduceIte, eq_self, hs]
  clear e0
  intro fr e2
  refine qai ?_
  exact W_ret (Ret1 e2 ⟨_, rfl, b1, b2, rfl⟩)
theorem run81 {X : Ctx} (hX : X.fns = fnsOf Try.prog) (ho : ∀ f args, f ≠ 15 ∧ f ≠ 38 → X.orc f args = none) {s0 s : Mm} {l : List HP} {B : Nat} {x : Int} (H : Hold s0 s (HP.cell B [.int .u64 x] :: l)) : CallP X 81 [pB B] s (fun r s' => ∃ y : Int, r = .int .u64 y ∧ Hold s0 s' (HP.cell B [.int .u64 y] :: l)) := by
  have hpB : pB B = .pointer (some ⟨B, 0, none⟩) := rfl
  obtain ⟨a1, hs1⟩ : ∃ w, shiftV .shl .u64 x 13 = some w := ⟨_, rfl⟩
  obtain ⟨x1, hx1, _⟩ := xor_u64 x a1
  obtain ⟨a2, hs2⟩ : ∃ w, shiftV .shr .u64 x1 7 = some w := ⟨_, rfl⟩
  obtain ⟨x2, hx2, _⟩ := xor_u64 x1 a2
  obtain ⟨a3, hs3⟩ : ∃ w, shiftV .shl .u64 x2 17 = some w := ⟨_, rfl⟩
  obtain ⟨x3, hx3, _⟩ := xor_u64 x2 a3
  refine CallP_of (hX ▸ ir81_eq) (ho _ _ (by decide)) (Nat.le_of_ble_eq_true rfl) ?_
  rw [hpB]
  refine qak (qan [0] ?_)
  simp only [o81_0, qah, qaj, qad, frame_nil, qbc, qae, qab, qaa, qac, Nat.reduceEqDiff, ↓reduceIte, eq_self, Nat.zero_add]
  intro fr e0
  refine qai ?_
  have l0 : loadV s none (.pointer (some ⟨B, 0, none⟩)) = some (.int .u64 x) := load_g (o := 0) (H.cell (List.mem_cons_self ..))
  have st1 : storeV s 1 (.pointer (some ⟨B, 0, none⟩)) (.int .u64 x1) = some (undefV, setBlk s B (.cells [.int .u64 x1] false)) := store_g (cs := [.int .u64 x]) (H.cell (List.mem_cons_self ..)) rfl Nat.zero_lt_one
  have H1 := H.setc (cs' := [.int .u64 x1])
  refine qak (qbb [0] rfl ?_)
  simp only [d81_1, WD_bin, WD_load, qba, WD_nilCheck, nilCheck_p, WD_store, bin_shl, bin_xor, WD_nil, qam, qas, qaz, qaw, qav, qar, qaq, qap, Nat.testBit, Nat.reduceShiftRight, Nat.reduceAnd, Nat.reduceBneDiff, List.all_nil, List.all_cons, List.filter_nil, List.filter_cons, qad, puT_none, qaf, qae, qab, qaa, qac, Option.map_some, Nat.reduceEqDiff, Nat.reduceAdd, ↓reduceIte, Bool.not_true, Bool.and_true, Bool.true_or, eq_self, Bool.false_eq_true, true_and, Nat.zero_add, e0, l0, hs1, hx1, st1]
  clear e0
  intro fr e0
  refine qai ?_
  generalize setBlk s B (.cells [.int .u64 x1] false) = s1 at H1 ⊢
  have l1 : loadV s1 none (.pointer (some ⟨B, 0, none⟩)) = some (.int .u64 x1) := load_g (o := 0) (H1.cell (List.mem_cons_self ..))
  have st2 : storeV s1 1 (.pointer (some ⟨B, 0, none⟩)) (.int .u64 x2) = some (undefV, setBlk s1 B (.cells [.int .u64 x2] false)) := store_g (cs := [.int .u64 x1]) (H1.cell (List.mem_cons_self ..)) rfl Nat.zero_lt_one
  have H2 := H1.setc (cs' := [.int .u64 x2])
  refine qak (qbb [0] rfl ?_)
  simp only [d81_2, WD_bin, WD_load, qba, WD_nilCheck, nilCheck_p, WD_store, bin_shr, bin_xor, WD_nil, qam, qas, qaz, qaw, qav, qar, qaq, qap, Nat.testBit, Nat.reduceShiftRight, Nat.reduceAnd, Nat.reduceBneDiff, List.all_nil, List.all_cons, List.filter_nil, List.filter_cons, qad, puT_none, qaf, qae, qab, qaa, qac, Option.map_some, Nat.reduceEqDiff, Nat.reduceAdd, ↓reduceIte, Bool.not_true, Bool.and_true, Bool.true_or, eq_self, Bool.false_eq_true, true_and, Nat.zero_add, e0, l1, hs2, hx2, st2]
  clear e0
  intro fr e0
  refine qai ?_
  generalize setBlk s1 B (.cells [.int .u64 x2] false) = s2 at H2 ⊢
  have l2 : loadV s2 none (.pointer (some ⟨B, 0, none⟩)) = some (.int .u64 x2) := load_g (o := 0) (H2.cell (List.mem_cons_self ..))
  have st3 : storeV s2 1 (.pointer (some ⟨B, 0, none⟩)) (.int .u64 x3) = some (undefV, setBlk s2 B (.cells [.int .u64 x3] false)) := store_g (cs := [.int .u64 x2]) (H2.cell (List.mem_cons_self ..)) rfl Nat.zero_lt_one
  have H3 := H2.setc (cs' := [.int .u64 x3])
  refine qak (qbb [0] rfl ?_)
  simp only [d81_3, WD_bin, WD_load, qba, WD_nilCheck, nilCheck_p, WD_store, bin_shl, bin_xor, WD_nil, qam, qas, qaz, qaw, qav, qar, qaq, qap, Nat.testBit, Nat.reduceShiftRight, Nat.reduceAnd, Nat.reduceBneDiff, List.all_nil, List.all_cons, List.filter_nil, List.filter_cons, qad, puT_none, qaf, qae, qab, qaa, qac, Option.map_some, Nat.reduceEqDiff, Nat.reduceAdd, ↓reduceIte, Bool.not_true, Bool.and_true, Bool.true_or, eq_self, Bool.false_eq_true, true_and, Nat.zero_add, e0, l2, hs3, hx3, st3]
  clear e0
  intro fr e0
  refine qai ?_
  generalize setBlk s2 B (.cells [.int .u64 x3] false) = s3 at H3 ⊢
  have l3 : loadV s3 none (.pointer (some ⟨B, 0, none⟩)) = some (.int .u64 x3) := load_g (o := 0) (H3.cell (List.mem_cons_self ..))
  refine qak (qan [2] ?_)
  simp only [o81_4, WO_load, qah, WO_nilCheck, nilCheck_p, qaj, qag, qad, qaf, qab, qaa, qac, ↓reduceIte, eq_self, e0, l3]
  clear e0
  intro fr e2
  refine qai ?_
  exact W_ret (Ret1 e2 ⟨x3, rfl, H3⟩)
end Go.Proofs.Ytpphomoijlilfaa

/- Sorting, walked: patterns broken; a part turned about. -/
namespace Go.Proofs.Ytpphomoijlilfaa
open Go Go.Vam Go.Sort
variable {α : Type} [Inhabited α]
set_option maxHeartbeats 1000000 in
theorem run63 {X : Ctx} (hX : X.fns = fnsOf Try.prog) (ho : ∀ f args, f ≠ 15 ∧ f ≠ 38 → X.orc f args = none) {eV : α → Value} {eC : α → List Value} (hE : El 3 (some 3) eV eC) {s0 s : Mm} {l : List HP} {v cv : Value} {n a b : Nat} {d : Array α} (H : Hold s0 s (HP.own 3 v n (flE eC d) :: l)) (hn : d.size = n) (hab : a + 12 < b) (hb : b ≤ n) (hn2 : n ≤ 1152921504606846976) :
    CallP X 63 [v, .int .i64 (a : Nat), .int .i64 (b : Nat), cv] s (fun _ s' => ∃ d', PermIn a b d d' ∧ Hold s0 s' (HP.own 3 v n (flE eC d') :: l)) := by
  obtain ⟨L, hL⟩ : ∃ L, L = b - a := ⟨_, rfl⟩
  have i0 : ((b : Nat) : Int) - ((a : Nat) : Int) = ((L : Nat) : Int) := by omega
  obtain ⟨q, hq⟩ : ∃ q, q = L / 4 := ⟨_, rfl⟩
  have i1 : ((L : Nat) : Int).tdiv 4 = ((q : Nat) : Int) := by rw [hq, Int.tdiv_eq_ediv_of_nonneg (by omega)]; omega
  have m2 : ((q : Nat) : Int) * 2 = ((q * 2 : Nat) : Int) := by omega
  have j2 : ((a : Nat) : Int) + ((q * 2 : Nat) : Int) = ((a + q * 2 : Nat) : Int) := by omega
  have k2 : ((a + q * 2 : Nat) : Int) - 1 = ((a + q * 2 - 1 : Nat) : Int) := by omega
  have n2 : ((a + q * 2 : Nat) : Int) + 1 = ((a + q * 2 + 1 : Nat) : Int) := by omega
  have w0 := qal (n := ((L : Nat) : Int)) (by omega) (by omega)
  have w0' := wrap_u64 (n := ((L : Nat) : Int)) (by omega) (by omega)
  have w1 := qal (n := ((q : Nat) : Int)) (by omega) (by omega)
  have w2 := qal (n := ((q * 2 : Nat) : Int)) (by omega) (by omega)
  have u2 := qal (n := ((a + q * 2 : Nat) : Int)) (by omega) (by omega)
  have u3 := qal (n := ((a + q * 2 - 1 : Nat) : Int)) (by omega) (by omega)
  have u4 := qal (n := ((a + q * 2 + 1 : Nat) : Int)) (by omega) (by omega)
  refine CallP_of (hX ▸ ir63_eq) (ho _ _ (by decide)) (Nat.le_of_ble_eq_true rfl) ?_
  refine qak (qan [0, 1, 8] ?_)
  simp only [o63_0, qao, qah, qbd, qaj, qag, qad, frame_nil, qbc, qaf, qab, qaa, qac, Nat.reduceEqDiff, Nat.reduceAdd, ↓reduceIte, eq_self, Nat.zero_add, i0, w0]
  intro fr e0 e1 e8
  refine qai ?_
  refine qak (qan [0, 1, 8, 17] ?_)
  simp only [o63_1, qao, qah, bin_geq, qaj, qag, qad, qaf, qae, qab, qaa, qac, Nat.reduceEqDiff, ↓reduceIte, eq_self, e0, e1, e8, decide_eq_true (show (8 : Int) ≤ ((L : Nat) : Int) by omega)]
  clear e0 e1 e8
  intro fr e0 e1 e8 e17
  refine qai ?_
  refine W_cond e17 (fun _ => ?_) (fun h => by cases h)
  have H1 := H.new [.int .u64 0]
  have st : storeV (newAt s (.cells [.int .u64 0] false)) 1 (.pointer (some ⟨s.nxt, 0, none⟩)) (.int .u64 (L : Nat)) = some (undefV, setBlk (newAt s (.cells [.int .u64 0] false)) s.nxt (.cells [.int .u64 (L : Nat)] false)) := store_g (cs := [.int .u64 0]) (H1.cell (List.mem_cons_self ..)) rfl Nat.zero_lt_one
  have H2 := H1.setc (cs' := [.int .u64 (L : Nat)])
  refine qak (qan [0, 1, 8, 9] ?_)
  simp only [o63_2, WO_alloc, WO_conv, conv_int, qah, WO_store, qaj, qag, MemK_some, qad, puT_none, qaf, qab, qaa, qac, Nat.reduceEqDiff, ↓reduceIte, eq_self, e0, e1, e8, w0', st]
  clear e0 e1 e8 e17
  intro fr e0 e1 e8 e9
  refine qai ?_
  clear st H1
  generalize setBlk (newAt s (.cells [.int .u64 0] false)) s.nxt (.cells [.int .u64 (L : Nat)] false) = s1 at H2 ⊢
  generalize s.nxt = B at H2 e9
  have hpB : Value.pointer (some ⟨B, 0, none⟩) = pB B := rfl
  rw [hpB] at e9
  refine qak (qan [0, 1, 8, 9, 10] ?_)
  simp only [o63_3, WO_call, qah, qad, qaf, List.map_cons, List.map_nil, ↓reduceIte, eq_self, e8]
  refine CallK_of (run80 hX ho (x := L) (by omega) (by omega)) ?_
  rintro _ _ ⟨M, rfl, hM1, hM2, rfl⟩
  simp only [qah, qaj, qad, qaf, qab, qaa, qac, Nat.reduceEqDiff, ↓reduceIte, eq_self, e0, e1, e8, e9]
  clear e0 e1 e8 e9
  intro fr e0 e1 e8 e9 e10
  refine qai ?_
  refine qak (qan [0, 1, 8, 9, 10, 11] ?_)
  simp only [o63_4, qao, qah, qax, bin_mul, bin_quo, qbd, qaj, qag, qad, qaf, qae, qab, qaa, qac, Nat.reduceEqDiff, ↓reduceIte, Int.reduceEq, eq_self, e0, e1, e8, e9, e10, i1, w1, m2, w2, j2, u2, k2, u3]
  clear e0 e1 e8 e9 e10
  intro fr e0 e1 e8 e9 e10 e11
  refine qai ?_
  refine qat (W_loop (fun m fr s1 => ∃ (i : Nat) (x : Int) (d' : Array α), i + m = a + q * 2 + 2 ∧ a + q * 2 - 1 ≤ i ∧ geT fr 0 = v ∧ geT fr 1 = .int .i64 (a : Nat) ∧ geT fr 8 = .int .i64 (L : Nat) ∧ geT fr 9 = pB B ∧ geT fr 10 = .int .u64 (M : Nat) ∧ geT fr 11 = .int .i64 (i : Nat) ∧ PermIn a b d d' ∧
    Hold s0 s1 (HP.cell B [.int .u64 x] :: HP.own 3 v n (flE eC d') :: l)) 3 ⟨_, _, d, by omega, by omega, e0, e1, e8, e9, e10, e11, permIn_refl _ _ _, H2⟩ ?_)
  clear e0 e1 e8 e9 e10 e11 fr H2 H s1
  rintro m fr s1 ⟨i, x, d', hi, hi2, e0, e1, e8, e9, e10, e11, hP, H⟩
  have hds : d'.size = n := by rw [hP.1]; exact hn
  refine qau ?_
  refine qak (qan [0, 1, 8, 9, 10, 11, 35] ?_)
  simp only [o63_6, qao, qah, qax, bin_leq, bin_mul, bin_quo, qaj, qag, qad, qaf, qae, qab, qaa, qac, Nat.reduceEqDiff, ↓reduceIte, Int.reduceEq, eq_self, e0, e1, e8, e9, e10, e11, i1, w1, m2, w2, j2, u2, n2, u4]
  clear e0 e1 e8 e9 e10 e11
  intro fr e0 e1 e8 e9 e10 e11 e35
  refine qai ?_
  refine W_while e35 (fun hlt => ?_) (fun hlt => ?_)
  · refine qak (qat ?_)
    have eM : ((M : Nat) : Int) - 1 = ((M - 1 : Nat) : Int) := by omega
    have wM := wrap_u64 (n := ((M - 1 : Nat) : Int)) (by omega) (by omega)
    refine qak (qan [0, 1, 8, 9, 10, 11, 12] ?_)
    simp only [o63_7, WO_call, qaf, List.map_cons, List.map_nil, e9]
    refine CallK_of (run81 hX ho H) ?_
    rintro _ s2 ⟨y, rfl, H2⟩
    obtain ⟨c, hc1, hc2⟩ := and_u64 y (m := M - 1) (by omega)
    simp only [qao, WO_conv, conv_int, qah, bin_and, qbd, qaj, qag, qad, qaf, qae, qab, qaa, qac, Option.map_some, Nat.reduceEqDiff, ↓reduceIte, eq_self, e0, e1, e8, e9, e10, e11, eM, wM, hc1, qal (n := ((c : Nat) : Int)) (by omega) (by omega)]
    clear e0 e1 e8 e9 e10 e11 e35
    intro fr e0 e1 e8 e9 e10 e11 e12
    refine qai ?_
    refine qau ?_
    refine qak (qan [0, 1, 8, 9, 10, 11, 12, 45] ?_)
    simp only [o63_8, qao, qah, bin_geq, qaj, qag, qad, qaf, qab, qaa, qac, Nat.reduceEqDiff, ↓reduceIte, eq_self, e0, e1, e8, e9, e10, e11, e12]
    clear e0 e1 e8 e9 e10 e11 e12
    intro fr e0 e1 e8 e9 e10 e11 e12 e45
    refine qai ?_
    refine qak (W_cutN (fun fr1 s6 => ∃ o : Nat, o < L ∧ s2 = s6 ∧ geT fr1 0 = v ∧ geT fr1 1 = .int .i64 (a : Nat) ∧ geT fr1 8 = .int .i64 (L : Nat) ∧ geT fr1 9 = pB B ∧ geT fr1 10 = .int .u64 (M : Nat) ∧ geT fr1 11 = .int .i64 (i : Nat) ∧ geT fr1 12 = .int .i64 (o : Nat)) ?_ ?_)
    · intro R' hR'
      refine W_if e45 (fun h => ?_) (fun h => W_skip (hR' _ _ ⟨c, by omega, rfl, e0, e1, e8, e9, e10, e11, e12⟩))
      have ec : ((c : Nat) : Int) - ((L : Nat) : Int) = ((c - L : Nat) : Int) := by omega
      refine qan [0, 1, 8, 9, 10, 11, 12] ?_
      simp only [o63_9, qao, qah, qbd, qaj, qag, qad, qaf, qab, qaa, qac, Nat.reduceEqDiff, ↓reduceIte, eq_self, e0, e1, e8, e9, e10, e11, e12, ec, qal (n := ((c - L : Nat) : Int)) (by omega) (by omega)]
      clear e0 e1 e8 e9 e10 e11 e12 e45
      intro fr e0 e1 e8 e9 e10 e11 e12
      exact hR' _ _ ⟨c - L, by omega, rfl, e0, e1, e8, e9, e10, e11, e12⟩
    clear e0 e1 e8 e9 e10 e11 e12 e45 fr
    rintro fr _ ⟨o, ho1, rfl, e0, e1, e8, e9, e10, e11, e12⟩
    refine qai ?_
    have eo : ((a : Nat) : Int) + ((o : Nat) : Int) = ((a + o : Nat) : Int) := by omega
    obtain ⟨A1, L1⟩ := own_ld hE H2.up1 hds (i := i) (by omega)
    obtain ⟨A2, L2⟩ := own_ld hE H2.up1 hds (i := a + o) (by omega)
    obtain ⟨s3, s4, st1, st2, H4⟩ := H2.up1.swp hE hds (i := i) (j := a + o) (by omega) (by omega)
    refine qbb [0, 1, 8, 9, 10, 11] rfl ?_
    simp only [d63_10, qay, WD_bin, WD_load, qba, WD_store, qax, WD_nil, qam, qas, qaz, qaw, qav, preHead_cons, qar, qaq, qap, Nat.testBit, Nat.reduceShiftRight, Nat.reduceAnd, Nat.reduceBneDiff, List.all_nil, List.all_cons, List.filter_nil, List.filter_cons, qad, puT_none, qaf, qab, qaa, qac, Nat.reduceEqDiff, Nat.reduceAdd, ↓reduceIte, Bool.not_true, Bool.and_true, Bool.true_or, eq_self, Bool.false_eq_true, true_and, Nat.zero_add, e0, e1, e8, e9, e10, e11, e12, eo, qal (n := ((a + o : Nat) : Int)) (by omega) (by omega), A1, A2, L1, L2, st1, st2]
    clear e0 e1 e8 e9 e10 e11 e12
    intro fr e0 e1 e8 e9 e10 e11
    refine BlkK_n (qai ?_)
    refine qan [0, 1, 8, 9, 10, 11] ?_
    simp only [o63_11, qao, qah, qax, qaj, qag, qad, qaf, qae, qab, qaa, qac, Nat.reduceEqDiff, ↓reduceIte, eq_self, e0, e1, e8, e9, e10, e11, qal (n := (i : Int) + 1) (by omega) (by omega)]
    clear e0 e1 e8 e9 e10 e11
    intro fr e0 e1 e8 e9 e10 e11
    exact LoopK_n (m' := m - 1) (by omega) ⟨i + 1, y, _, by omega, by omega, e0, e1, e8, e9, e10, by rw [e11]; rfl, permIn_trans _ _ _ _ _ hP (swp_permIn _ _ _ _ _ (by omega) (by omega) (by omega) (by omega) (by omega)), H4.up1⟩
  · exact LoopK_x (BlkK_e (Ret0n ⟨d', hP, H.tail⟩))
set_option maxHeartbeats 1000000 in
theorem run65 {X : Ctx} (hX : X.fns = fnsOf Try.prog) (ho : ∀ f args, f ≠ 15 ∧ f ≠ 38 → X.orc f args = none) {eV : α → Value} {eC : α → List Value} (hE : El 3 (some 3) eV eC) {s0 s : Mm} {l : List HP} {v cv : Value} {n a b : Nat} {d : Array α} (H : Hold s0 s (HP.own 3 v n (flE eC d) :: l)) (hn : d.size = n) (hab : a < b) (hb : b ≤ n) (hn2 : n ≤ 1152921504606846976) :
    CallP X 65 [v, .int .i64 (a : Nat), .int .i64 (b : Nat), cv] s (fun _ s' => ∃ d', PermIn a b d d' ∧ Hold s0 s' (HP.own 3 v n (flE eC d') :: l)) := by
  have i0 : ((b : Nat) : Int) - 1 = ((b - 1 : Nat) : Int) := by omega
  refine CallP_of (hX ▸ ir65_eq) (ho _ _ (by decide)) (Nat.le_of_ble_eq_true rfl) ?_
  refine qak (qan [0, 2, 8] ?_)
  simp only [o65_0, qah, qaj, qad, frame_nil, qbc, qaf, qab, qaa, qac, Nat.reduceEqDiff, Nat.reduceAdd, ↓reduceIte, eq_self, Nat.zero_add]
  intro fr e0 e2 e8
  refine qai ?_
  refine qak (qan [0, 8, 9] ?_)
  simp only [o65_1, qao, qah, qbd, qaj, qag, qad, qaf, qae, qab, qaa, qac, Nat.reduceEqDiff, ↓reduceIte, eq_self, e0, e2, e8, i0, qal (n := ((b - 1 : Nat) : Int)) (by omega) (by omega)]
  clear e0 e2 e8
  intro fr e0 e8 e9
  refine qai ?_
  refine qat (W_loop (fun m fr s1 => ∃ (i j : Nat) (d' : Array α), j - i ≤ m ∧ a ≤ i ∧ j < b ∧ i ≤ b ∧ geT fr 0 = v ∧ geT fr 8 = .int .i64 (i : Nat) ∧ geT fr 9 = .int .i64 (j : Nat) ∧ PermIn a b d d' ∧
    Hold s0 s1 (HP.own 3 v n (flE eC d') :: l)) b ⟨_, _, d, by omega, Nat.le_refl _, by omega, by omega, e0, e8, e9, permIn_refl _ _ _, H⟩ ?_)
  clear e0 e8 e9 fr H
  rintro m fr s1 ⟨i, j, d', hm, hi, hj, hi2, e0, e8, e9, hP, H⟩
  have hds : d'.size = n := by rw [hP.1]; exact hn
  refine qau ?_
  refine qak (qan [0, 8, 9, 15] ?_)
  simp only [o65_3, qao, qah, bin_lss, qaj, qag, qad, qaf, qab, qaa, qac, Nat.reduceEqDiff, ↓reduceIte, eq_self, e0, e8, e9]
  clear e0 e8 e9
  intro fr e0 e8 e9 e15
  refine qai ?_
  refine W_while e15 (fun hlt => ?_) (fun hlt => ?_)
  · refine qat ?_
    obtain ⟨A1, L1⟩ := own_ld hE H hds (i := i) (by omega)
    obtain ⟨A2, L2⟩ := own_ld hE H hds (i := j) (by omega)
    obtain ⟨s3, s4, st1, st2, H4⟩ := H.swp hE hds (i := i) (j := j) (by omega) (by omega)
    refine qak (qbb [0, 8, 9] rfl ?_)
    simp only [d65_4, qay, WD_load, qba, WD_store, WD_nil, qam, qas, qaz, qaw, qav, preHead_cons, qar, qaq, qap, Nat.testBit, Nat.reduceShiftRight, Nat.reduceAnd, Nat.reduceBneDiff, List.all_nil, List.all_cons, List.filter_nil, List.filter_cons, qad, puT_none, qaf, qab, qaa, qac, Nat.reduceEqDiff, Nat.reduceAdd, ↓reduceIte, Bool.not_true, Bool.and_true, Bool.true_or, eq_self, Bool.false_eq_true, true_and, Nat.zero_add, e0, e8, e9, A1, A2, L1, L2, st1, st2]
    clear e0 e8 e9 e15
    intro fr e0 e8 e9
    refine qai ?_
    have j0 : ((j : Nat) : Int) - 1 = ((j - 1 : Nat) : Int) := by omega
    refine qak (qan [0, 8, 9] ?_)
    simp only [o65_5, qao, qah, qax, qaj, qag, qad, qaf, qae, qab, qaa, qac, Nat.reduceEqDiff, ↓reduceIte, eq_self, e0, e8, e9, qal (n := (i : Int) + 1) (by omega) (by omega)]
    clear e0 e8 e9
    intro fr e0 e8 e9
    refine qai ?_
    refine qan [0, 8, 9] ?_
    simp only [o65_6, qao, qah, qbd, qaj, qag, qad, qaf, qae, qab, qaa, qac, Nat.reduceEqDiff, ↓reduceIte, eq_self, e0, e8, e9, j0, qal (n := ((j - 1 : Nat) : Int)) (by omega) (by omega)]
    clear e0 e8 e9
    intro fr e0 e8 e9
    refine BlkK_n ?_
    exact LoopK_n (m' := j - 1 - (i + 1)) (by omega) ⟨i + 1, j - 1, _, Nat.le_refl _, by omega, by omega, by omega, e0, by rw [e8]; rfl, e9, permIn_trans _ _ _ _ _ hP (swp_permIn _ _ _ _ _ (by omega) (by omega) (by omega) (by omega) (by omega)), H4⟩
  · exact LoopK_x (BlkK_e (Ret0n ⟨d', hP, H⟩))
end Go.Proofs.Ytpphomoijlilfaa

/- Sorting, walked: by insertion; heaps. -/
namespace Go.Proofs.Ytpphomoijlilfaa
open Go Go.Vam Go.Sort
variable {α : Type} [Inhabited α]
theorem own_size {β : Type} {eV : β → Value} {eC : β → List Value} (hE : El 3 (some 3) eV eC) {s0 s : Mm} {l : List HP} {v : Value} {n : Nat} {d : Array β} (H : Hold s0 s (HP.own 3 v n (flE eC d) :: l)) : d.size = n := by
  have := (H.own (List.mem_cons_self ..)).length
  rw [flE_len hE] at this; omega
theorem ins_stop1 {lt : α → α → Bool} {a j : Nat} {d : Array α} (h : ¬ a < j) : insInner lt a j d = d := by
  cases j with
  | zero => rfl
  | succ j => simp only [insInner]; rw [if_neg]; simp; omega
theorem ins_stop2 {lt : α → α → Bool} {a j : Nat} {d : Array α} (h : lt d[j]! d[j - 1]! = false) : insInner lt a j d = d := by
  cases j with
  | zero => rfl
  | succ j => simp only [insInner]; rw [if_neg]; simp only [Nat.add_sub_cancel] at h; rw [h]; simp
theorem ins_go {lt : α → α → Bool} {a j : Nat} {d : Array α} (h0 : a < j) (h : lt d[j]! d[j - 1]! = true) : insInner lt a j d = insInner lt a (j - 1) (swp d j (j - 1)) := by
  cases j with
  | zero => omega
  | succ j => simp only [insInner]; simp only [Nat.add_sub_cancel] at h ⊢; rw [if_pos]; rw [h]; simp; omega
theorem sift_stop {lt : α → α → Bool} {hi first root : Nat} {d : Array α} (h : hi ≤ 2 * root + 1) : siftDown lt hi first root d = d := by
  rw [siftDown, dif_pos h]
theorem sift_go {lt : α → α → Bool} {hi first root c : Nat} {d : Array α} (h : ¬ hi ≤ 2 * root + 1)
    (hc : (c = 2 * root + 2 ∧ 2 * root + 2 < hi ∧ lt d[first + (2 * root + 1)]! d[first + (2 * root + 2)]! = true) ∨ (c = 2 * root + 1 ∧ (2 * root + 2 < hi → lt d[first + (2 * root + 1)]! d[first + (2 * root + 2)]! = false))) :
    siftDown lt hi first root d = if lt d[first + root]! d[first + c]! = false then d else siftDown lt hi first c (swp d (first + root) (first + c)) := by
  rw [siftDown, dif_neg (by omega)]
  have e : first + (2 * root + 1) + 1 = first + (2 * root + 2) := by omega
  have e2 : 2 * root + 1 + 1 = 2 * root + 2 := by omega
  rw [e, e2]
  rcases hc with ⟨rfl, h1, h2⟩ | ⟨rfl, h1⟩
  · rw [if_pos (by rw [h2]; simp; omega), dif_pos h1]
    cases lt d[first + root]! d[first + (2 * root + 2)]! <;> simp
  · rw [if_neg (by
      intro hx
      rw [Bool.and_eq_true, decide_eq_true_eq] at hx
      rw [h1 hx.1] at hx; exact absurd hx.2 (by simp))]
    cases lt d[first + root]! d[first + (2 * root + 1)]! <;> simp
set_option maxHeartbeats 1000000 in
theorem run61 {X : Ctx} (hX : X.fns = fnsOf Try.prog) (ho : ∀ f args, f ≠ 15 ∧ f ≠ 38 → X.orc f args = none) {eV : α → Value} {eC : α → List Value} (hE : El 3 (some 3) eV eC) {lt : α → α → Bool} {C : FuncId} {s0 : Mm} {L0 : List HP} {Q : Prop} (hc : ∀ (s : Mm) (l' : List HP) (x y : α), Hold s0 s l' → (∀ P ∈ L0, P ∈ l') → Q → CallP X C [eV x, eV y] s (fun r s' => ∃ z, r = .int .i64 z ∧ decide (z < 0) = lt x y ∧ s = s')) {s : Mm} {l : List HP} (hMem : ∀ P ∈ L0, P ∈ l) {v : Value} {n a b : Nat} {d : Array α} (hQok : 0 < n → Q) (H : Hold s0 s (HP.own 3 v n (flE eC d) :: l)) (hb : b ≤ n) (ha : a ≤ n) (hn2 : n ≤ 1152921504606846976) :
    CallP X 61 [v, .int .i64 (a : Nat), .int .i64 (b : Nat), cmpV C] s (fun _ s' => Hold s0 s' (HP.own 3 v n (flE eC (insertionSort lt d a b)) :: l)) := by
  have hcv : cmpV C = .func (.func C) #[] #[] := rfl
  refine CallP_of (hX ▸ ir61_eq) (ho _ _ (by decide)) (Nat.le_of_ble_eq_true rfl) ?_
  rw [hcv]
  refine qak (qan [0, 1, 2, 3, 8] ?_)
  simp only [o61_0, qao, qah, qax, qaj, qag, qad, frame_nil, qbc, qaf, qae, qab, qaa, qac, Nat.reduceEqDiff, Nat.reduceAdd, ↓reduceIte, eq_self, Nat.zero_add, qal (n := (a : Int) + 1) (by omega) (by omega)]
  intro fr e0 e1 e2 e3 e8
  refine qai ?_
  obtain ⟨T, hT⟩ : ∃ T, T = insertionSort lt d a b := ⟨_, rfl⟩
  rw [← hT]
  have hT0 : insOuter lt a b (a + 1) d = T := hT.symm
  refine qat (W_loop (fun m fr s1 => ∃ (i : Nat) (d' : Array α), b - i ≤ m ∧ a < i ∧ i ≤ n + 1 ∧ insOuter lt a b i d' = T ∧ geT fr 0 = v ∧ geT fr 1 = .int .i64 (a : Nat) ∧ geT fr 2 = .int .i64 (b : Nat) ∧ geT fr 3 = .func (.func C) #[] #[] ∧ geT fr 8 = .int .i64 (i : Nat) ∧
    Hold s0 s1 (HP.own 3 v n (flE eC d') :: l)) b ⟨a + 1, d, by omega, by omega, by omega, hT0, e0, e1, e2, e3, by rw [e8]; rfl, H⟩ ?_)
  clear e0 e1 e2 e3 e8 fr H hT hT0
  rintro m fr s1 ⟨i, d1, hm, hi, hin, hT, e0, e1, e2, e3, e8, H⟩
  refine qau ?_
  refine qak (qan [0, 1, 2, 3, 8, 14] ?_)
  simp only [o61_2, qao, qah, bin_lss, qaj, qag, qad, qaf, qab, qaa, qac, Nat.reduceEqDiff, ↓reduceIte, eq_self, e0, e1, e2, e3, e8]
  clear e0 e1 e2 e3 e8
  intro fr e0 e1 e2 e3 e8 e14
  refine qai ?_
  refine W_while e14 (fun hlt => ?_) (fun hlt => ?_)
  · have hib : i < b := by omega
    rw [insOuter, if_pos hib] at hT
    refine qak (qat ?_)
    refine qak (qan [0, 1, 2, 3, 8, 9] ?_)
    simp only [o61_3, qah, qaj, qad, qaf, qab, qaa, qac, Nat.reduceEqDiff, ↓reduceIte, eq_self, e0, e1, e2, e3, e8]
    clear e0 e1 e2 e3 e8 e14
    intro fr e0 e1 e2 e3 e8 e9
    refine qai ?_
    refine qat (W_loop (fun m fr s1 => ∃ (j : Nat) (d' : Array α), j = m ∧ j ≤ i ∧ insInner lt a j d' = insInner lt a i d1 ∧ geT fr 0 = v ∧ geT fr 1 = .int .i64 (a : Nat) ∧ geT fr 2 = .int .i64 (b : Nat) ∧ geT fr 3 = .func (.func C) #[] #[] ∧ geT fr 8 = .int .i64 (i : Nat) ∧ geT fr 9 = .int .i64 (j : Nat) ∧
      Hold s0 s1 (HP.own 3 v n (flE eC d') :: l)) i ⟨i, d1, rfl, Nat.le_refl _, rfl, e0, e1, e2, e3, e8, e9, H⟩ ?_)
    clear e0 e1 e2 e3 e8 e9 fr H s1
    rintro m' fr s1 ⟨j, d2, hm', hj, hT2, e0, e1, e2, e3, e8, e9, H⟩
    have hds := own_size hE H
    refine qau ?_
    by_cases hja : a < j
    · have j0 : ((j : Nat) : Int) - 1 = ((j - 1 : Nat) : Int) := by omega
      have wj := qal (n := ((j - 1 : Nat) : Int)) (by omega) (by omega)
      obtain ⟨A1, L1⟩ := own_ld hE H hds (i := j) (by omega)
      obtain ⟨A2, L2⟩ := own_ld hE H hds (i := j - 1) (by omega)
      refine qak (qbb [0, 1, 2, 3, 8, 9, 34] rfl ?_)
      simp only [d61_5, qay, WD_bin, WD_load, qba, WD_callT, DFunK_0, bin_gtr, qbd, want_v, wantB_t, qam, qas, qaw, qar, qap, qad, qaf, qae, List.map_cons, List.map_nil, Nat.reduceEqDiff, Nat.reduceAdd, ↓reduceIte, eq_self, true_and, Nat.zero_add, e0, e1, e3, e9, WD_yes, decide_eq_true (show ((a : Nat) : Int) < ((j : Nat) : Int) by omega), A1, L1, j0, wj, A2, L2]
      refine DCallK_of rfl (hc _ _ _ _ (by assumption) (fun P hP => by simp [hMem P hP]) (hQok (by omega))) ?_
      rintro _ _ ⟨z, rfl, hz, rfl⟩
      simp only [WD_bin, WD_pick, pick_b, bin_lss, want_v, wantB_t, WD_nil, qam, qar, qaq, qap, Nat.testBit, Nat.reduceShiftRight, Nat.reduceAnd, Nat.reduceBneDiff, List.all_nil, List.all_cons, List.filter_nil, List.filter_cons, qad, qaf, qae, qab, qaa, qac, Nat.reduceEqDiff, Nat.reduceAdd, ↓reduceIte, Bool.not_true, Bool.and_true, Bool.true_or, eq_self, Bool.false_eq_true, true_and, e0, e1, e2, e3, e8, e9, WD_yes]
      clear e0 e1 e2 e3 e8 e9
      intro fr e0 e1 e2 e3 e8 e9 e34
      refine qai ?_
      cases hl : lt d2[j]! d2[j - 1]! with
      | true =>
        rw [hl] at hz
        rw [hz] at e34
        rw [ins_go hja hl] at hT2
        refine qak (W_cond e34 (fun _ => W_skip (qai ?_)) (fun h => absurd h (by decide)))
        refine qak (qat ?_)
        obtain ⟨s3, s4, st1, st2, H4⟩ := H.swp hE hds (i := j) (j := j - 1) (by omega) (by omega)
        refine qbb [0, 1, 2, 3, 8, 9] rfl ?_
        simp only [d61_6, qay, WD_bin, WD_load, qba, WD_store, qbd, WD_nil, qam, qas, qaz, qaw, qav, preHead_cons, qar, qaq, qap, Nat.testBit, Nat.reduceShiftRight, Nat.reduceAnd, Nat.reduceBneDiff, List.all_nil, List.all_cons, List.filter_nil, List.filter_cons, qad, puT_none, qaf, qae, qab, qaa, qac, Nat.reduceEqDiff, Nat.reduceAdd, ↓reduceIte, Bool.not_true, Bool.and_true, Bool.true_or, eq_self, Bool.false_eq_true, true_and, Nat.zero_add, e0, e1, e2, e3, e8, e9, j0, wj, A1, A2, L1, L2, st1, st2]
        clear e0 e1 e2 e3 e8 e9
        intro fr e0 e1 e2 e3 e8 e9
        refine BlkK_n (qai ?_)
        refine qan [0, 1, 2, 3, 8, 9] ?_
        simp only [o61_7, qao, qah, qbd, qaj, qag, qad, qaf, qae, qab, qaa, qac, Nat.reduceEqDiff, ↓reduceIte, eq_self, e0, e1, e2, e3, e8, e9, j0, wj]
        clear e0 e1 e2 e3 e8 e9
        intro fr e0 e1 e2 e3 e8 e9
        exact LoopK_n (m' := j - 1) (by omega) ⟨j - 1, _, rfl, by omega, hT2, e0, e1, e2, e3, e8, e9, H4⟩
      | false =>
        rw [hl] at hz
        rw [hz] at e34
        rw [ins_stop2 hl] at hT2
        refine qak (W_cond e34 (fun h => absurd h (by decide)) (fun _ => W_exit (SeqK_x (LoopK_x (BlkK_e (BlkK_n (qai ?_)))))))
        refine qan [0, 1, 2, 3, 8] ?_
        simp only [o61_8, qao, qah, qax, qaj, qag, qad, qaf, qae, qab, qaa, qac, Nat.reduceEqDiff, ↓reduceIte, eq_self, e0, e1, e2, e3, e8, qal (n := (i : Int) + 1) (by omega) (by omega)]
        clear e0 e1 e2 e3 e8
        intro fr e0 e1 e2 e3 e8
        rw [← hT2] at hT
        exact LoopK_n (m' := m - 1) (by omega) ⟨i + 1, d2, by omega, by omega, by omega, hT, e0, e1, e2, e3, by rw [e8]; rfl, H⟩
    · rw [ins_stop1 hja] at hT2
      refine qak (qbb [0, 1, 2, 3, 8, 9, 34] rfl ?_)
      simp only [d61_5, WD_bin, qba, WD_pick, pick_b, bin_gtr, want_v, wantB_t, WD_nil, qam, qaz, qav, qar, qaq, qap, Nat.testBit, List.all_nil, List.filter_nil, qad, qaf, qae, qab, qaa, qac, Nat.reduceEqDiff, Nat.reduceAdd, ↓reduceIte, eq_self, Bool.false_eq_true, true_and, Nat.zero_add, e0, e1, e2, e3, e8, e9, WD_no_move, WD_no_bin, WD_no_addrSl, WD_no_load, WD_no_call, decide_eq_false (show ¬ ((a : Nat) : Int) < ((j : Nat) : Int) by omega)]
      clear e0 e1 e2 e3 e8 e9
      intro fr e0 e1 e2 e3 e8 e9 e34
      refine qai ?_
      refine qak (W_cond e34 (fun h => absurd h (by decide)) (fun _ => W_exit (SeqK_x (LoopK_x (BlkK_e (BlkK_n (qai ?_)))))))
      refine qan [0, 1, 2, 3, 8] ?_
      simp only [o61_8, qao, qah, qax, qaj, qag, qad, qaf, qae, qab, qaa, qac, Nat.reduceEqDiff, ↓reduceIte, eq_self, e0, e1, e2, e3, e8, qal (n := (i : Int) + 1) (by omega) (by omega)]
      clear e0 e1 e2 e3 e8
      intro fr e0 e1 e2 e3 e8
      rw [← hT2] at hT
      exact LoopK_n (m' := m - 1) (by omega) ⟨i + 1, d2, by omega, by omega, by omega, hT, e0, e1, e2, e3, by rw [e8]; rfl, H⟩
  · rw [insOuter, if_neg (by omega)] at hT
    subst hT
    exact LoopK_x (BlkK_e (Ret0n H))
set_option maxHeartbeats 1000000 in
theorem run79 {X : Ctx} (hX : X.fns = fnsOf Try.prog) (ho : ∀ f args, f ≠ 15 ∧ f ≠ 38 → X.orc f args = none) {eV : α → Value} {eC : α → List Value} (hE : El 3 (some 3) eV eC) {lt : α → α → Bool} {C : FuncId} {s0 : Mm} {L0 : List HP} {Q : Prop} (hc : ∀ (s : Mm) (l' : List HP) (x y : α), Hold s0 s l' → (∀ P ∈ L0, P ∈ l') → Q → CallP X C [eV x, eV y] s (fun r s' => ∃ z, r = .int .i64 z ∧ decide (z < 0) = lt x y ∧ s = s')) {s : Mm} {l : List HP} (hMem : ∀ P ∈ L0, P ∈ l) {v : Value} {n lo hi first : Nat} {d : Array α} (hQok : 0 < n → Q) (H : Hold s0 s (HP.own 3 v n (flE eC d) :: l)) (hf : first + hi ≤ n) (hlo : lo ≤ n) (hn2 : n ≤ 1152921504606846976) :
    CallP X 79 [v, .int .i64 (lo : Nat), .int .i64 (hi : Nat), .int .i64 (first : Nat), cmpV C] s (fun _ s' => Hold s0 s' (HP.own 3 v n (flE eC (siftDown lt hi first lo d)) :: l)) := by
  have hcv : cmpV C = .func (.func C) #[] #[] := rfl
  refine CallP_of (hX ▸ ir79_eq) (ho _ _ (by decide)) (Nat.le_of_ble_eq_true rfl) ?_
  rw [hcv]
  refine qak (qan [0, 2, 3, 4, 10] ?_)
  simp only [o79_0, qah, qaj, qad, frame_nil, qbc, qaf, qab, qaa, qac, Nat.reduceEqDiff, Nat.reduceAdd, ↓reduceIte, eq_self, Nat.zero_add]
  intro fr e0 e2 e3 e4 e10
  refine qai ?_
  obtain ⟨T, hT⟩ : ∃ T, siftDown lt hi first lo d = T := ⟨_, rfl⟩
  rw [hT]
  refine qat (W_loop (fun m fr s1 => ∃ (root : Nat) (d' : Array α), hi - root ≤ m ∧ root ≤ n ∧ siftDown lt hi first root d' = T ∧ geT fr 0 = v ∧ geT fr 2 = .int .i64 (hi : Nat) ∧ geT fr 3 = .int .i64 (first : Nat) ∧ geT fr 4 = .func (.func C) #[] #[] ∧ geT fr 10 = .int .i64 (root : Nat) ∧
    Hold s0 s1 (HP.own 3 v n (flE eC d') :: l)) hi ⟨lo, d, by omega, hlo, hT, e0, e2, e3, e4, e10, H⟩ ?_)
  clear e0 e2 e3 e4 e10 fr H hT
  rintro m fr s1 ⟨r, d1, hm, hr, hT, e0, e2, e3, e4, e10, H⟩
  have hds := own_size hE H
  have k1 : 2 * ((r : Nat) : Int) = ((2 * r : Nat) : Int) := by omega
  have k2 : ((2 * r : Nat) : Int) + 1 = ((2 * r + 1 : Nat) : Int) := by omega
  have k3 : ((2 * r + 1 : Nat) : Int) + 1 = ((2 * r + 2 : Nat) : Int) := by omega
  have w1 := qal (n := ((2 * r : Nat) : Int)) (by omega) (by omega)
  have w2 := qal (n := ((2 * r + 1 : Nat) : Int)) (by omega) (by omega)
  have w3 := qal (n := ((2 * r + 2 : Nat) : Int)) (by omega) (by omega)
  refine qat ?_
  refine qak (qan [0, 2, 3, 4, 10, 11] ?_)
  simp only [o79_2, qao, qah, qax, bin_mul, qaj, qag, qad, qaf, qae, qab, qaa, qac, Nat.reduceEqDiff, ↓reduceIte, eq_self, e0, e2, e3, e4, e10, k1, w1, k2, w2]
  clear e0 e2 e3 e4 e10
  intro fr e0 e2 e3 e4 e10 e11
  refine qai ?_
  refine qau ?_
  refine qak (qan [0, 2, 3, 4, 10, 11, 18] ?_)
  simp only [o79_3, qao, qah, bin_geq, qaj, qag, qad, qaf, qab, qaa, qac, Nat.reduceEqDiff, ↓reduceIte, eq_self, e0, e2, e3, e4, e10, e11]
  clear e0 e2 e3 e4 e10 e11
  intro fr e0 e2 e3 e4 e10 e11 e18
  refine qai ?_
  by_cases hch : hi ≤ 2 * r + 1
  · rw [sift_stop hch] at hT
    subst hT
    refine qak (W_if e18 (fun _ => W_exit (SeqK_x (BlkK_x (by decide) (LoopK_x (BlkK_e (Ret0n H)))))) (fun h => absurd (by omega) h))
  refine qak (W_if e18 (fun h => absurd h (by omega)) (fun _ => W_skip (qai ?_)))
  refine qau ?_
  have f1 : ((first : Nat) : Int) + ((2 * r + 1 : Nat) : Int) = ((first + (2 * r + 1) : Nat) : Int) := by omega
  have f2 : ((first + (2 * r + 1) : Nat) : Int) + 1 = ((first + (2 * r + 2) : Nat) : Int) := by omega
  have v1 := qal (n := ((first + (2 * r + 1) : Nat) : Int)) (by omega) (by omega)
  have v2 := qal (n := ((first + (2 * r + 2) : Nat) : Int)) (by omega) (by omega)
  obtain ⟨A1, L1⟩ := own_ld hE H hds (i := first + (2 * r + 1)) (by omega)
  refine qak (W_cutN (fun fr1 s6 => s1 = s6 ∧ geT fr1 0 = v ∧ geT fr1 2 = .int .i64 (hi : Nat) ∧ geT fr1 3 = .int .i64 (first : Nat) ∧ geT fr1 4 = .func (.func C) #[] #[] ∧ geT fr1 10 = .int .i64 (r : Nat) ∧ geT fr1 11 = .int .i64 (2 * r + 1 : Nat) ∧ ∃ bb : Bool, geT fr1 40 = .bool bb ∧ (bb = true → 2 * r + 2 < hi ∧ lt d1[first + (2 * r + 1)]! d1[first + (2 * r + 2)]! = true) ∧ (bb = false → 2 * r + 2 < hi → lt d1[first + (2 * r + 1)]! d1[first + (2 * r + 2)]! = false)) ?_ ?_)
  · intro R' hR'
    by_cases h2 : 2 * r + 2 < hi
    · obtain ⟨A2, L2⟩ := own_ld hE H hds (i := first + (2 * r + 2)) (by omega)
      refine qbb [0, 2, 3, 4, 10, 11, 40] rfl ?_
      simp only [d79_4, qay, WD_bin, WD_load, qba, WD_callT, DFunK_0, qax, bin_lss, want_v, wantB_t, qam, qas, qaw, qar, qap, qad, qaf, qae, List.map_cons, List.map_nil, Nat.reduceEqDiff, Nat.reduceAdd, ↓reduceIte, eq_self, true_and, Nat.zero_add, e0, e2, e3, e4, e11, WD_yes, k3, w3, decide_eq_true (show ((2 * r + 2 : Nat) : Int) < ((hi : Nat) : Int) by omega), f1, v1, f2, v2, A1, L1, A2, L2]
      refine DCallK_of rfl (hc _ _ _ _ (by assumption) (fun P hP => by simp [hMem P hP]) (hQok (by omega))) ?_
      rintro _ _ ⟨z, rfl, hz, rfl⟩
      simp only [WD_bin, WD_pick, pick_b, bin_lss, want_v, wantB_t, WD_nil, qam, qar, qaq, qap, Nat.testBit, Nat.reduceShiftRight, Nat.reduceAnd, Nat.reduceBneDiff, List.all_nil, List.all_cons, List.filter_nil, List.filter_cons, qad, qaf, qae, qab, qaa, qac, Nat.reduceEqDiff, Nat.reduceAdd, ↓reduceIte, Bool.not_true, Bool.and_true, Bool.true_or, eq_self, Bool.false_eq_true, true_and, e0, e2, e3, e4, e10, e11, WD_yes]
      clear e0 e2 e3 e4 e10 e11
      intro fr e0 e2 e3 e4 e10 e11 e40
      exact hR' _ _ ⟨rfl, e0, e2, e3, e4, e10, e11, _, e40, fun hb => ⟨h2, by rw [← hz]; exact hb⟩, fun hb _ => by rw [← hz]; exact hb⟩
    · have _h := h2
      refine qbb [0, 2, 3, 4, 10, 11, 40] rfl ?_
      simp only [d79_4, WD_bin, qba, WD_pick, pick_b, qax, bin_lss, want_v, wantB_t, WD_nil, qam, qaz, qav, qar, qaq, qap, Nat.testBit, List.all_nil, List.filter_nil, qad, qaf, qae, qab, qaa, qac, Nat.reduceEqDiff, Nat.reduceAdd, ↓reduceIte, eq_self, Bool.false_eq_true, true_and, Nat.zero_add, e0, e2, e3, e4, e10, e11, WD_no_move, WD_no_bin, WD_no_addrSl, WD_no_load, WD_no_call, k3, w3, decide_eq_false (show ¬ ((2 * r + 2 : Nat) : Int) < ((hi : Nat) : Int) by omega)]
      clear e0 e2 e3 e4 e10 e11
      intro fr e0 e2 e3 e4 e10 e11 e40
      exact hR' _ _ ⟨rfl, e0, e2, e3, e4, e10, e11, _, e40, fun hb => (by cases hb), fun _ h => absurd h h2⟩
  clear e0 e2 e3 e4 e10 e11 e18 fr
  rintro fr _ ⟨rfl, e0, e2, e3, e4, e10, e11, bb, e40, hb1, hb2⟩
  refine qai ?_
  refine qak (W_cutN (fun fr1 s6 => ∃ c : Nat, ((c = 2 * r + 2 ∧ 2 * r + 2 < hi ∧ lt d1[first + (2 * r + 1)]! d1[first + (2 * r + 2)]! = true) ∨ (c = 2 * r + 1 ∧ (2 * r + 2 < hi → lt d1[first + (2 * r + 1)]! d1[first + (2 * r + 2)]! = false))) ∧ s1 = s6 ∧ geT fr1 0 = v ∧ geT fr1 2 = .int .i64 (hi : Nat) ∧ geT fr1 3 = .int .i64 (first : Nat) ∧ geT fr1 4 = .func (.func C) #[] #[] ∧ geT fr1 10 = .int .i64 (r : Nat) ∧ geT fr1 11 = .int .i64 (c : Nat)) ?_ ?_)
  · intro R' hR'
    cases bb with
    | true =>
      refine W_cond e40 (fun _ => ?_) (fun h => absurd h (by decide))
      refine qan [0, 2, 3, 4, 10, 11] ?_
      simp only [o79_5, qao, qah, qax, qaj, qag, qad, qaf, qae, qab, qaa, qac, Nat.reduceEqDiff, ↓reduceIte, eq_self, e0, e2, e3, e4, e10, e11, k3, w3]
      clear e0 e2 e3 e4 e10 e11
      intro fr e0 e2 e3 e4 e10 e11
      exact hR' _ _ ⟨2 * r + 2, .inl ⟨rfl, hb1 rfl⟩, rfl, e0, e2, e3, e4, e10, e11⟩
    | false =>
      refine W_cond e40 (fun h => absurd h (by decide)) (fun _ => W_skip ?_)
      exact hR' _ _ ⟨2 * r + 1, .inr ⟨rfl, hb2 rfl⟩, rfl, e0, e2, e3, e4, e10, e11⟩
  clear e0 e2 e3 e4 e10 e11 e40 fr
  rintro fr _ ⟨c, hcc, rfl, e0, e2, e3, e4, e10, e11⟩
  refine qai ?_
  have hch2 : c < hi ∧ r < c := by omega
  rw [sift_go hch hcc] at hT
  have g1 : ((first : Nat) : Int) + ((r : Nat) : Int) = ((first + r : Nat) : Int) := by omega
  have g2 : ((first : Nat) : Int) + ((c : Nat) : Int) = ((first + c : Nat) : Int) := by omega
  have x1 := qal (n := ((first + r : Nat) : Int)) (by omega) (by omega)
  have x2 := qal (n := ((first + c : Nat) : Int)) (by omega) (by omega)
  obtain ⟨A3, L3⟩ := own_ld hE H hds (i := first + r) (by omega)
  obtain ⟨A4, L4⟩ := own_ld hE H hds (i := first + c) (by omega)
  refine qau ?_
  refine qak (qbb [0, 2, 3, 4, 10, 11, 58] rfl ?_)
  simp only [d79_6, qay, WD_bin, WD_load, qba, WD_callT, DFunK_0, qax, qam, qas, qaw, qar, qap, qad, qaf, List.map_cons, List.map_nil, Nat.reduceEqDiff, Nat.reduceAdd, ↓reduceIte, eq_self, true_and, Nat.zero_add, e0, e3, e4, e10, e11, g1, x1, g2, x2, A3, L3, A4, L4]
  refine DCallK_of rfl (hc _ _ _ _ (by assumption) (fun P hP => by simp [hMem P hP]) (hQok (by omega))) ?_
  rintro _ _ ⟨z, rfl, hz, rfl⟩
  simp only [WD_bin, WD_un, un_not, bin_lss, WD_nil, qam, qar, qaq, qap, Nat.testBit, Nat.reduceShiftRight, Nat.reduceAnd, Nat.reduceBneDiff, List.all_nil, List.all_cons, List.filter_nil, List.filter_cons, qad, qaf, qae, qab, qaa, qac, Nat.reduceEqDiff, Nat.reduceAdd, ↓reduceIte, Bool.not_true, Bool.and_true, Bool.true_or, eq_self, Bool.false_eq_true, true_and, e0, e2, e3, e4, e10, e11]
  clear e0 e2 e3 e4 e10 e11
  intro fr e0 e2 e3 e4 e10 e11 e58
  refine qai ?_
  cases hl : lt d1[first + r]! d1[first + c]! with
  | false =>
    rw [hl] at hz
    rw [hz] at e58
    rw [if_pos hl] at hT
    subst hT
    refine qak (W_cond e58 (fun _ => ?_) (fun h => absurd h (by decide)))
    exact W_ret (SeqK_r (BlkK_r (LoopK_r (BlkK_r (Ret0 H)))))
  | true =>
    rw [hl] at hz
    rw [hz] at e58
    rw [if_neg (by rw [hl]; simp)] at hT
    refine qak (W_cond e58 (fun h => absurd h (by decide)) (fun _ => W_skip (qai ?_)))
    obtain ⟨s3, s4, st1, st2, H4⟩ := H.swp hE hds (i := first + r) (j := first + c) (by omega) (by omega)
    refine qak (qbb [0, 2, 3, 4, 11] rfl ?_)
    simp only [d79_7, qay, WD_bin, WD_load, qba, WD_store, qax, WD_nil, qam, qas, qaz, qaw, qav, preHead_cons, qar, qaq, qap, Nat.testBit, Nat.reduceShiftRight, Nat.reduceAnd, Nat.reduceBneDiff, List.all_nil, List.all_cons, List.filter_nil, List.filter_cons, qad, puT_none, qaf, qab, qaa, qac, Nat.reduceEqDiff, Nat.reduceAdd, ↓reduceIte, Bool.not_true, Bool.and_true, Bool.true_or, eq_self, Bool.false_eq_true, true_and, Nat.zero_add, e0, e2, e3, e4, e10, e11, g1, x1, g2, x2, A3, L3, A4, L4, st1, st2]
    clear e0 e2 e3 e4 e10 e11
    intro fr e0 e2 e3 e4 e11
    refine qai ?_
    refine qan [0, 2, 3, 4, 10] ?_
    simp only [o79_8, qah, qaj, qad, qaf, qab, qaa, qac, Nat.reduceEqDiff, ↓reduceIte, eq_self, e0, e2, e3, e4, e11]
    clear e0 e2 e3 e4 e11
    intro fr e0 e2 e3 e4 e10
    exact BlkK_n (LoopK_n (m' := hi - c) (by omega) ⟨c, _, Nat.le_refl _, by omega, hT, e0, e2, e3, e4, e10, H4⟩)
end Go.Proofs.Ytpphomoijlilfaa

/- Sorting, walked: the partitions. -/
namespace Go.Proofs.Ytpphomoijlilfaa
open Go Go.Vam Go.Sort
variable {α : Type} [Inhabited α]
theorem su_stop1 {p : α → Bool} {d : Array α} {j i : Nat} (h : ¬ i ≤ j) : scanUp p d j i = i := by
  rw [scanUp, if_neg]; simp; omega
theorem su_stop2 {p : α → Bool} {d : Array α} {j i : Nat} (h : p d[i]! = false) : scanUp p d j i = i := by
  rw [scanUp, if_neg]; rw [h]; simp
theorem su_go {p : α → Bool} {d : Array α} {j i : Nat} (h0 : i ≤ j) (h : p d[i]! = true) : scanUp p d j i = scanUp p d j (i + 1) := by
  rw [scanUp, if_pos]; rw [h]; simp; omega
theorem sd_stop1 {p : α → Bool} {d : Array α} {i j : Nat} (h : ¬ i ≤ j) : scanDown p d i j = j := by
  cases j with
  | zero => rfl
  | succ j => rw [scanDown, if_neg]; simp; omega
theorem sd_stop2 {p : α → Bool} {d : Array α} {i j : Nat} (h : p d[j]! = false) : scanDown p d i j = j := by
  cases j with
  | zero => rfl
  | succ j => rw [scanDown, if_neg]; rw [h]; simp
theorem sd_go {p : α → Bool} {d : Array α} {i j : Nat} (hi : 1 ≤ i) (h0 : i ≤ j) (h : p d[j]! = true) : scanDown p d i j = scanDown p d i (j - 1) := by
  cases j with
  | zero => omega
  | succ j => rw [scanDown, if_pos]; rfl; rw [h]; simp; omega
set_option maxHeartbeats 2000000 in
theorem run68 {X : Ctx} (hX : X.fns = fnsOf Try.prog) (ho : ∀ f args, f ≠ 15 ∧ f ≠ 38 → X.orc f args = none) {eV : α → Value} {eC : α → List Value} (hE : El 3 (some 3) eV eC) {lt : α → α → Bool} {C : FuncId} {s0 : Mm} {L0 : List HP} {Q : Prop} (hc : ∀ (s : Mm) (l' : List HP) (x y : α), Hold s0 s l' → (∀ P ∈ L0, P ∈ l') → Q → CallP X C [eV x, eV y] s (fun r s' => ∃ z, r = .int .i64 z ∧ decide (z < 0) = lt x y ∧ s = s')) {s : Mm} {l : List HP} (hMem : ∀ P ∈ L0, P ∈ l) {v : Value} {n a b pv : Nat} {d : Array α} (hQok : 0 < n → Q) (H : Hold s0 s (HP.own 3 v n (flE eC d) :: l)) (hap : a ≤ pv) (hpb : pv < b) (hb : b ≤ n) (hn2 : n ≤ 1152921504606846976) :
    CallP X 68 [v, .int .i64 (a : Nat), .int .i64 (b : Nat), .int .i64 (pv : Nat), cmpV C] s (fun r s' => r = .tuple #[.int .i64 ((partition lt d a b pv).1 : Nat), .bool (partition lt d a b pv).2.1] ∧ Hold s0 s' (HP.own 3 v n (flE eC (partition lt d a b pv).2.2) :: l)) := by
  have hcv : cmpV C = .func (.func C) #[] #[] := rfl
  have hds := own_size hE H
  refine CallP_of (hX ▸ ir68_eq) (ho _ _ (by decide)) (Nat.le_of_ble_eq_true rfl) ?_
  rw [hcv]
  refine qak (qan [0, 1, 2, 3, 4] ?_)
  simp only [o68_0, qah, qaj, qad, frame_nil, qbc, qae, qab, qaa, qac, Nat.reduceEqDiff, Nat.reduceAdd, ↓reduceIte, eq_self, Nat.zero_add]
  intro fr e0 e1 e2 e3 e4
  refine qai ?_
  obtain ⟨A1, L1⟩ := own_ld hE H hds (i := a) (by omega)
  obtain ⟨A2, L2⟩ := own_ld hE H hds (i := pv) (by omega)
  obtain ⟨s3, s4, st1, st2, H4⟩ := H.swp hE hds (i := a) (j := pv) (by omega) (by omega)
  refine qak (qbb [0, 1, 2, 4] rfl ?_)
  simp only [d68_1, qay, WD_load, qba, WD_store, WD_nil, qam, qas, qaz, qaw, qav, preHead_cons, qar, qaq, qap, Nat.testBit, Nat.reduceShiftRight, Nat.reduceAnd, Nat.reduceBneDiff, List.all_nil, List.all_cons, List.filter_nil, List.filter_cons, qad, puT_none, qaf, qab, qaa, qac, Nat.reduceEqDiff, Nat.reduceAdd, ↓reduceIte, Bool.not_true, Bool.and_true, Bool.true_or, eq_self, Bool.false_eq_true, true_and, Nat.zero_add, e0, e1, e2, e3, e4, A1, A2, L1, L2, st1, st2]
  clear e0 e1 e2 e3 e4
  intro fr e0 e1 e2 e4
  refine qai ?_
  obtain ⟨d1, hd1⟩ : ∃ x, x = swp d a pv := ⟨_, rfl⟩
  rw [← hd1] at H4
  clear A1 A2 L1 L2 st1 st2 H hds s3
  have hds := own_size hE H4
  have i0 : ((b : Nat) : Int) - 1 = ((b - 1 : Nat) : Int) := by omega
  have i1' : ((a : Nat) : Int) + 1 = ((a + 1 : Nat) : Int) := by omega
  refine qak (qan [0, 1, 4, 12, 13] ?_)
  simp only [o68_2, qao, qah, qax, qbd, qaj, qag, qad, qaf, qae, qab, qaa, qac, Nat.reduceEqDiff, ↓reduceIte, eq_self, e0, e1, e2, e4, i1', qal (n := ((a + 1 : Nat) : Int)) (by omega) (by omega), i0, qal (n := ((b - 1 : Nat) : Int)) (by omega) (by omega)]
  clear e0 e1 e2 e4
  intro fr e0 e1 e4 e12 e13
  refine qai ?_
  obtain ⟨b1, hb1⟩ : ∃ x, x = b - 1 := ⟨_, rfl⟩
  rw [← hb1] at e13
  obtain ⟨a1, ha1⟩ : ∃ x, x = a + 1 := ⟨_, rfl⟩
  rw [← ha1] at e12
  obtain ⟨i1, hi1⟩ : ∃ x, x = scanUp (fun x => lt x d1[a]!) d1 b1 a1 := ⟨_, rfl⟩
  have bi1 : a1 ≤ i1 := by rw [hi1]; exact scanUp_ge _ _ _ _
  refine qak (W_cutN (fun fr1 s6 => s4 = s6 ∧ geT fr1 0 = v ∧ geT fr1 1 = .int .i64 (a : Nat) ∧ geT fr1 4 = .func (.func C) #[] #[] ∧ geT fr1 12 = .int .i64 (i1 : Nat) ∧ geT fr1 13 = .int .i64 (b1 : Nat)) ?_ ?_)
  · intro R' hR'
    refine qat (W_loop (fun m fr s6 => ∃ x : Nat, s4 = s6 ∧ (b1 + 1 - x ≤ m) ∧ scanUp (fun x => lt x d1[a]!) d1 b1 x = i1 ∧ geT fr 0 = v ∧ geT fr 1 = .int .i64 (a : Nat) ∧ geT fr 4 = .func (.func C) #[] #[] ∧ geT fr 12 = .int .i64 (x : Nat) ∧ geT fr 13 = .int .i64 (b1 : Nat)) (b1 + 1) ⟨a1, rfl, by omega, hi1.symm, e0, e1, e4, e12, e13⟩ ?_)
    clear e0 e1 e4 e12 e13 fr
    rintro m fr _ ⟨x, rfl, hm, hs, e0, e1, e4, e12, e13⟩
    refine qau ?_
    by_cases hx : x ≤ b1
    · obtain ⟨A1, L1⟩ := own_ld hE H4 hds (i := x) (by omega)
      obtain ⟨A0, L0⟩ := own_ld hE H4 hds (i := a) (by omega)
      refine qak (qbb [0, 1, 4, 12, 13, 47] rfl ?_)
      simp only [d68_4, qay, WD_bin, WD_load, qba, WD_callT, DFunK_0, bin_leq, want_v, wantB_t, qam, qas, qaw, qar, qap, qad, qaf, List.map_cons, List.map_nil, Nat.reduceEqDiff, Nat.reduceAdd, ↓reduceIte, eq_self, true_and, Nat.zero_add, e0, e1, e4, e12, e13, WD_yes, decide_eq_true (show ((x : Nat) : Int) ≤ ((b1 : Nat) : Int) by omega), A1, L1, A0, L0]
      refine DCallK_of rfl (hc _ _ _ _ (by assumption) (fun P hP => by simp [hMem P hP]) (hQok (by omega))) ?_
      rintro _ _ ⟨z, rfl, hz, rfl⟩
      simp only [WD_bin, WD_pick, pick_b, bin_lss, want_v, wantB_t, WD_nil, qam, qar, qaq, qap, Nat.testBit, Nat.reduceShiftRight, Nat.reduceAnd, Nat.reduceBneDiff, List.all_nil, List.all_cons, List.filter_nil, List.filter_cons, qad, qaf, qae, qab, qaa, qac, Nat.reduceEqDiff, Nat.reduceAdd, ↓reduceIte, Bool.not_true, Bool.and_true, Bool.true_or, eq_self, Bool.false_eq_true, true_and, e0, e1, e4, e12, e13, WD_yes]
      clear e0 e1 e4 e12 e13
      intro fr e0 e1 e4 e12 e13 e47
      refine qai ?_
      cases hl : lt d1[x]! d1[a]! with
      | true =>
        rw [hl] at hz
        rw [hz] at e47
        rw [su_go (p := fun x => lt x d1[a]!) (d := d1) hx (show (fun x => lt x d1[a]!) d1[x]! = true by show (lt d1[x]! d1[a]!) = true; rw [hl])] at hs
        refine qak (W_cond e47 (fun _ => W_skip (qai ?_)) (fun h => absurd h (by decide)))
        refine qat ?_
        refine qan [0, 1, 4, 12, 13] ?_
        simp only [o68_5, qao, qah, qax, qaj, qag, qad, qaf, qae, qab, qaa, qac, Nat.reduceEqDiff, ↓reduceIte, eq_self, e0, e1, e4, e12, e13, qal (n := (x : Int) + 1) (by omega) (by omega)]
        clear e0 e1 e4 e12 e13
        intro fr e0 e1 e4 e12 e13
        refine BlkK_n ?_
        exact LoopK_n (m' := m - 1) (by omega) ⟨x + 1, rfl, by omega, hs, e0, e1, e4, by rw [e12]; rfl, e13⟩
      | false =>
        rw [hl] at hz
        rw [hz] at e47
        rw [su_stop2 (p := fun x => lt x d1[a]!) (d := d1) (show (fun x => lt x d1[a]!) d1[x]! = false by show (lt d1[x]! d1[a]!) = false; rw [hl])] at hs
        refine qak (W_cond e47 (fun h => absurd h (by decide)) (fun _ => W_exit (SeqK_x (LoopK_x (BlkK_e ?_)))))
        exact hR' _ _ ⟨rfl, by rw [← hs]; exact ⟨e0, e1, e4, e12, e13⟩⟩
    · rw [su_stop1 hx] at hs
      refine qak (qbb [0, 1, 4, 12, 13, 47] rfl ?_)
      simp only [d68_4, WD_bin, qba, WD_pick, pick_b, bin_leq, want_v, wantB_t, WD_nil, qam, qaz, qav, qar, qaq, qap, Nat.testBit, List.all_nil, List.filter_nil, qad, qaf, qae, qab, qaa, qac, Nat.reduceEqDiff, Nat.reduceAdd, ↓reduceIte, eq_self, Bool.false_eq_true, true_and, Nat.zero_add, e0, e1, e4, e12, e13, WD_no_move, WD_no_bin, WD_no_addrSl, WD_no_load, WD_no_call, decide_eq_false (show ¬ ((x : Nat) : Int) ≤ ((b1 : Nat) : Int) by omega)]
      clear e0 e1 e4 e12 e13
      intro fr e0 e1 e4 e12 e13 e47
      refine qai ?_
      refine qak (W_cond e47 (fun h => absurd h (by decide)) (fun _ => W_exit (SeqK_x (LoopK_x (BlkK_e ?_)))))
      exact hR' _ _ ⟨rfl, by rw [← hs]; exact ⟨e0, e1, e4, e12, e13⟩⟩
  clear e0 e1 e4 e12 e13 fr
  rintro fr _ ⟨rfl, e0, e1, e4, e12, e13⟩
  refine qai ?_
  obtain ⟨j1, hj1⟩ : ∃ x, x = scanDown (fun x => !lt x d1[a]!) d1 i1 b1 := ⟨_, rfl⟩
  have bj1 : j1 ≤ b1 := by rw [hj1]; exact scanDown_le _ _ _ _
  refine qak (W_cutN (fun fr1 s6 => s4 = s6 ∧ geT fr1 0 = v ∧ geT fr1 1 = .int .i64 (a : Nat) ∧ geT fr1 4 = .func (.func C) #[] #[] ∧ geT fr1 12 = .int .i64 (i1 : Nat) ∧ geT fr1 13 = .int .i64 (j1 : Nat)) ?_ ?_)
  · intro R' hR'
    refine qat (W_loop (fun m fr s6 => ∃ x : Nat, s4 = s6 ∧ (x ≤ b1 ∧ x ≤ m) ∧ scanDown (fun x => !lt x d1[a]!) d1 i1 x = j1 ∧ geT fr 0 = v ∧ geT fr 1 = .int .i64 (a : Nat) ∧ geT fr 4 = .func (.func C) #[] #[] ∧ geT fr 12 = .int .i64 (i1 : Nat) ∧ geT fr 13 = .int .i64 (x : Nat)) (b1) ⟨b1, rfl, by omega, hj1.symm, e0, e1, e4, e12, e13⟩ ?_)
    clear e0 e1 e4 e12 e13 fr
    rintro m fr _ ⟨x, rfl, hm, hs, e0, e1, e4, e12, e13⟩
    refine qau ?_
    by_cases hx : i1 ≤ x
    · obtain ⟨A1, L1⟩ := own_ld hE H4 hds (i := x) (by omega)
      obtain ⟨A0, L0⟩ := own_ld hE H4 hds (i := a) (by omega)
      refine qak (qbb [0, 1, 4, 12, 13, 66] rfl ?_)
      simp only [d68_7, qay, WD_bin, WD_load, qba, WD_callT, DFunK_0, bin_leq, want_v, wantB_t, qam, qas, qaw, qar, qap, qad, qaf, List.map_cons, List.map_nil, Nat.reduceEqDiff, Nat.reduceAdd, ↓reduceIte, eq_self, true_and, Nat.zero_add, e0, e1, e4, e12, e13, WD_yes, decide_eq_true (show ((i1 : Nat) : Int) ≤ ((x : Nat) : Int) by omega), A1, L1, A0, L0]
      refine DCallK_of rfl (hc _ _ _ _ (by assumption) (fun P hP => by simp [hMem P hP]) (hQok (by omega))) ?_
      rintro _ _ ⟨z, rfl, hz, rfl⟩
      simp only [WD_bin, WD_pick, pick_b, WD_un, un_not, bin_lss, want_v, wantB_t, WD_nil, qam, qar, qaq, qap, Nat.testBit, Nat.reduceShiftRight, Nat.reduceAnd, Nat.reduceBneDiff, List.all_nil, List.all_cons, List.filter_nil, List.filter_cons, qad, qaf, qae, qab, qaa, qac, Nat.reduceEqDiff, Nat.reduceAdd, ↓reduceIte, Bool.not_true, Bool.and_true, Bool.true_or, eq_self, Bool.false_eq_true, true_and, e0, e1, e4, e12, e13, WD_yes]
      clear e0 e1 e4 e12 e13
      intro fr e0 e1 e4 e12 e13 e66
      refine qai ?_
      cases hl : lt d1[x]! d1[a]! with
      | false =>
        rw [hl] at hz
        rw [hz] at e66
        rw [sd_go (p := fun x => !lt x d1[a]!) (d := d1) (by omega) hx (show (fun x => !lt x d1[a]!) d1[x]! = true by show (!lt d1[x]! d1[a]!) = true; rw [hl]; rfl)] at hs
        refine qak (W_cond e66 (fun _ => W_skip (qai ?_)) (fun h => absurd h (by decide)))
        refine qat ?_
        have xm : ((x : Nat) : Int) - 1 = ((x - 1 : Nat) : Int) := by omega
        refine qan [0, 1, 4, 12, 13] ?_
        simp only [o68_8, qao, qah, qbd, qaj, qag, qad, qaf, qae, qab, qaa, qac, Nat.reduceEqDiff, ↓reduceIte, eq_self, e0, e1, e4, e12, e13, xm, qal (n := ((x - 1 : Nat) : Int)) (by omega) (by omega)]
        clear e0 e1 e4 e12 e13
        intro fr e0 e1 e4 e12 e13
        refine BlkK_n ?_
        exact LoopK_n (m' := m - 1) (by omega) ⟨x - 1, rfl, by omega, hs, e0, e1, e4, e12, e13⟩
      | true =>
        rw [hl] at hz
        rw [hz] at e66
        rw [sd_stop2 (p := fun x => !lt x d1[a]!) (d := d1) (show (fun x => !lt x d1[a]!) d1[x]! = false by show (!lt d1[x]! d1[a]!) = false; rw [hl]; rfl)] at hs
        refine qak (W_cond e66 (fun h => absurd h (by decide)) (fun _ => W_exit (SeqK_x (LoopK_x (BlkK_e ?_)))))
        exact hR' _ _ ⟨rfl, by rw [← hs]; exact ⟨e0, e1, e4, e12, e13⟩⟩
    · rw [sd_stop1 hx] at hs
      refine qak (qbb [0, 1, 4, 12, 13, 66] rfl ?_)
      simp only [d68_7, WD_bin, qba, WD_pick, pick_b, bin_leq, want_v, wantB_t, WD_nil, qam, qaz, qav, qar, qaq, qap, Nat.testBit, List.all_nil, List.filter_nil, qad, qaf, qae, qab, qaa, qac, Nat.reduceEqDiff, Nat.reduceAdd, ↓reduceIte, eq_self, Bool.false_eq_true, true_and, Nat.zero_add, e0, e1, e4, e12, e13, WD_no_move, WD_no_bin, WD_no_un, WD_no_addrSl, WD_no_load, WD_no_call, decide_eq_false (show ¬ ((i1 : Nat) : Int) ≤ ((x : Nat) : Int) by omega)]
      clear e0 e1 e4 e12 e13
      intro fr e0 e1 e4 e12 e13 e66
      refine qai ?_
      refine qak (W_cond e66 (fun h => absurd h (by decide)) (fun _ => W_exit (SeqK_x (LoopK_x (BlkK_e ?_)))))
      exact hR' _ _ ⟨rfl, by rw [← hs]; exact ⟨e0, e1, e4, e12, e13⟩⟩
  clear e0 e1 e4 e12 e13 fr
  rintro fr _ ⟨rfl, e0, e1, e4, e12, e13⟩
  refine qai ?_
  have hP : partition lt d a b pv = if i1 > j1 then (j1, true, swp d1 j1 a) else ((partLoop lt a (i1 + 1) (j1 - 1) (swp d1 i1 j1)).1, false, swp (partLoop lt a (i1 + 1) (j1 - 1) (swp d1 i1 j1)).2 (partLoop lt a (i1 + 1) (j1 - 1) (swp d1 i1 j1)).1 a) := by
    rw [hj1, hi1, hd1, hb1, ha1]; rfl
  rw [hP]
  refine qau ?_
  refine qak (qan [0, 1, 4, 12, 13, 71] ?_)
  simp only [o68_9, qao, qah, bin_gtr, qaj, qag, qad, qaf, qab, qaa, qac, Nat.reduceEqDiff, ↓reduceIte, eq_self, e0, e1, e4, e12, e13]
  clear e0 e1 e4 e12 e13
  intro fr e0 e1 e4 e12 e13 e71
  refine qai ?_
  by_cases hij : i1 > j1
  · rw [if_pos hij]
    refine qak (W_if e71 (fun _ => ?_) (fun h => absurd (by omega) h))
    obtain ⟨A1, L1⟩ := own_ld hE H4 hds (i := a) (by omega)
    obtain ⟨A2, L2⟩ := own_ld hE H4 hds (i := j1) (by omega)
    obtain ⟨s5, s6, st1, st2, H6⟩ := H4.swp hE hds (i := j1) (j := a) (by omega) (by omega)
    refine qak (qbb [13] rfl ?_)
    simp only [d68_10, qay, WD_load, qba, WD_store, WD_nil, qam, qas, qaz, qaw, qav, preHead_cons, qar, qaq, qap, Nat.testBit, Nat.reduceShiftRight, Nat.reduceAnd, Nat.reduceBneDiff, List.all_nil, List.all_cons, List.filter_nil, List.filter_cons, qad, puT_none, qaf, qab, qaa, qac, Nat.reduceEqDiff, Nat.reduceAdd, ↓reduceIte, Bool.not_true, Bool.and_true, Bool.true_or, eq_self, Bool.false_eq_true, true_and, Nat.zero_add, e0, e1, e13, A1, A2, L1, L2, st1, st2]
    clear e0 e1 e4 e12 e13 e71
    intro fr e13
    refine qai ?_
    refine qak (qan [10, 11] ?_)
    simp only [o68_11, qah, qaj, qad, qaf, qae, qab, qaa, qac, Nat.reduceEqDiff, ↓reduceIte, eq_self, e13]
    clear e13
    intro fr e10 e11
    refine qai ?_
    exact W_ret (SeqK_r (Ret2 e10 e11 ⟨rfl, H6⟩))
  rw [if_neg hij]
  refine qak (W_if e71 (fun h => absurd h (by omega)) (fun _ => W_skip (qai ?_)))
  obtain ⟨A1, L1⟩ := own_ld hE H4 hds (i := i1) (by omega)
  obtain ⟨A2, L2⟩ := own_ld hE H4 hds (i := j1) (by omega)
  obtain ⟨s5, s6, st1, st2, H6⟩ := H4.swp hE hds (i := i1) (j := j1) (by omega) (by omega)
  refine qak (qbb [0, 1, 4, 12, 13] rfl ?_)
  simp only [d68_12, qay, WD_load, qba, WD_store, WD_nil, qam, qas, qaz, qaw, qav, preHead_cons, qar, qaq, qap, Nat.testBit, Nat.reduceShiftRight, Nat.reduceAnd, Nat.reduceBneDiff, List.all_nil, List.all_cons, List.filter_nil, List.filter_cons, qad, puT_none, qaf, qab, qaa, qac, Nat.reduceEqDiff, Nat.reduceAdd, ↓reduceIte, Bool.not_true, Bool.and_true, Bool.true_or, eq_self, Bool.false_eq_true, true_and, Nat.zero_add, e0, e1, e4, e12, e13, A1, A2, L1, L2, st1, st2]
  clear e0 e1 e4 e12 e13
  intro fr e0 e1 e4 e12 e13
  refine qai ?_
  clear A1 A2 L1 L2 st1 st2 s5
  have j0 : ((j1 : Nat) : Int) - 1 = ((j1 - 1 : Nat) : Int) := by omega
  refine qak (qan [0, 1, 4, 12, 13] ?_)
  simp only [o68_13, qao, qah, qax, qaj, qag, qad, qaf, qae, qab, qaa, qac, Nat.reduceEqDiff, ↓reduceIte, eq_self, e0, e1, e4, e12, e13, qal (n := (i1 : Int) + 1) (by omega) (by omega)]
  clear e0 e1 e4 e12 e13
  intro fr e0 e1 e4 e12 e13
  refine qai ?_
  refine qak (qan [0, 1, 4, 12, 13] ?_)
  simp only [o68_14, qao, qah, qbd, qaj, qag, qad, qaf, qae, qab, qaa, qac, Nat.reduceEqDiff, ↓reduceIte, eq_self, e0, e1, e4, e12, e13, j0, qal (n := ((j1 - 1 : Nat) : Int)) (by omega) (by omega)]
  clear e0 e1 e4 e12 e13
  intro fr e0 e1 e4 e12 e13
  refine qai ?_
  obtain ⟨T, hT⟩ : ∃ T, partLoop lt a (i1 + 1) (j1 - 1) (swp d1 i1 j1) = T := ⟨_, rfl⟩
  rw [hT]
  refine qak (qat (W_loop (fun m fr s1 => ∃ (i j : Nat) (d' : Array α), j + 1 - i ≤ m ∧ a < i ∧ j < b ∧ partLoop lt a i j d' = T ∧ geT fr 0 = v ∧ geT fr 1 = .int .i64 (a : Nat) ∧ geT fr 4 = .func (.func C) #[] #[] ∧ geT fr 12 = .int .i64 (i : Nat) ∧ geT fr 13 = .int .i64 (j : Nat) ∧
    Hold s0 s1 (HP.own 3 v n (flE eC d') :: l)) n ⟨i1 + 1, j1 - 1, _, by omega, by omega, by omega, hT, e0, e1, e4, by rw [e12]; rfl, e13, H6⟩ ?_))
  clear e0 e1 e4 e12 e13 fr hT H6 H4 hP hds hi1 hj1 s4 s6
  rintro m fr s4 ⟨i, j, d1, hm, hai, hjb, hT, e0, e1, e4, e12, e13, H4⟩
  have hds := own_size hE H4
  refine qat ?_
  obtain ⟨i2, hi2⟩ : ∃ x, x = scanUp (fun x => lt x d1[a]!) d1 j i := ⟨_, rfl⟩
  have bi2 : i ≤ i2 := by rw [hi2]; exact scanUp_ge _ _ _ _
  refine qak (W_cutN (fun fr1 s6 => s4 = s6 ∧ geT fr1 0 = v ∧ geT fr1 1 = .int .i64 (a : Nat) ∧ geT fr1 4 = .func (.func C) #[] #[] ∧ geT fr1 12 = .int .i64 (i2 : Nat) ∧ geT fr1 13 = .int .i64 (j : Nat)) ?_ ?_)
  · intro R' hR'
    refine qat (W_loop (fun m fr s6 => ∃ x : Nat, s4 = s6 ∧ (j + 1 - x ≤ m) ∧ scanUp (fun x => lt x d1[a]!) d1 j x = i2 ∧ geT fr 0 = v ∧ geT fr 1 = .int .i64 (a : Nat) ∧ geT fr 4 = .func (.func C) #[] #[] ∧ geT fr 12 = .int .i64 (x : Nat) ∧ geT fr 13 = .int .i64 (j : Nat)) (j + 1) ⟨i, rfl, by omega, hi2.symm, e0, e1, e4, e12, e13⟩ ?_)
    clear e0 e1 e4 e12 e13 fr
    rintro m fr _ ⟨x, rfl, hm, hs, e0, e1, e4, e12, e13⟩
    refine qau ?_
    by_cases hx : x ≤ j
    · obtain ⟨A1, L1⟩ := own_ld hE H4 hds (i := x) (by omega)
      obtain ⟨A0, L0⟩ := own_ld hE H4 hds (i := a) (by omega)
      refine qak (qbb [0, 1, 4, 12, 13, 120] rfl ?_)
      simp only [d68_17, qay, WD_bin, WD_load, qba, WD_callT, DFunK_0, bin_leq, want_v, wantB_t, qam, qas, qaw, qar, qap, qad, qaf, List.map_cons, List.map_nil, Nat.reduceEqDiff, Nat.reduceAdd, ↓reduceIte, eq_self, true_and, Nat.zero_add, e0, e1, e4, e12, e13, WD_yes, decide_eq_true (show ((x : Nat) : Int) ≤ ((j : Nat) : Int) by omega), A1, L1, A0, L0]
      refine DCallK_of rfl (hc _ _ _ _ (by assumption) (fun P hP => by simp [hMem P hP]) (hQok (by omega))) ?_
      rintro _ _ ⟨z, rfl, hz, rfl⟩
      simp only [WD_bin, WD_pick, pick_b, bin_lss, want_v, wantB_t, WD_nil, qam, qar, qaq, qap, Nat.testBit, Nat.reduceShiftRight, Nat.reduceAnd, Nat.reduceBneDiff, List.all_nil, List.all_cons, List.filter_nil, List.filter_cons, qad, qaf, qae, qab, qaa, qac, Nat.reduceEqDiff, Nat.reduceAdd, ↓reduceIte, Bool.not_true, Bool.and_true, Bool.true_or, eq_self, Bool.false_eq_true, true_and, e0, e1, e4, e12, e13, WD_yes]
      clear e0 e1 e4 e12 e13
      intro fr e0 e1 e4 e12 e13 e120
      refine qai ?_
      cases hl : lt d1[x]! d1[a]! with
      | true =>
        rw [hl] at hz
        rw [hz] at e120
        rw [su_go (p := fun x => lt x d1[a]!) (d := d1) hx (show (fun x => lt x d1[a]!) d1[x]! = true by show (lt d1[x]! d1[a]!) = true; rw [hl])] at hs
        refine qak (W_cond e120 (fun _ => W_skip (qai ?_)) (fun h => absurd h (by decide)))
        refine qat ?_
        refine qan [0, 1, 4, 12, 13] ?_
        simp only [o68_18, qao, qah, qax, qaj, qag, qad, qaf, qae, qab, qaa, qac, Nat.reduceEqDiff, ↓reduceIte, eq_self, e0, e1, e4, e12, e13, qal (n := (x : Int) + 1) (by omega) (by omega)]
        clear e0 e1 e4 e12 e13
        intro fr e0 e1 e4 e12 e13
        refine BlkK_n ?_
        exact LoopK_n (m' := m - 1) (by omega) ⟨x + 1, rfl, by omega, hs, e0, e1, e4, by rw [e12]; rfl, e13⟩
      | false =>
        rw [hl] at hz
        rw [hz] at e120
        rw [su_stop2 (p := fun x => lt x d1[a]!) (d := d1) (show (fun x => lt x d1[a]!) d1[x]! = false by show (lt d1[x]! d1[a]!) = false; rw [hl])] at hs
        refine qak (W_cond e120 (fun h => absurd h (by decide)) (fun _ => W_exit (SeqK_x (LoopK_x (BlkK_e ?_)))))
        exact hR' _ _ ⟨rfl, by rw [← hs]; exact ⟨e0, e1, e4, e12, e13⟩⟩
    · rw [su_stop1 hx] at hs
      refine qak (qbb [0, 1, 4, 12, 13, 120] rfl ?_)
      simp only [d68_17, WD_bin, qba, WD_pick, pick_b, bin_leq, want_v, wantB_t, WD_nil, qam, qaz, qav, qar, qaq, qap, Nat.testBit, List.all_nil, List.filter_nil, qad, qaf, qae, qab, qaa, qac, Nat.reduceEqDiff, Nat.reduceAdd, ↓reduceIte, eq_self, Bool.false_eq_true, true_and, Nat.zero_add, e0, e1, e4, e12, e13, WD_no_move, WD_no_bin, WD_no_addrSl, WD_no_load, WD_no_call, decide_eq_false (show ¬ ((x : Nat) : Int) ≤ ((j : Nat) : Int) by omega)]
      clear e0 e1 e4 e12 e13
      intro fr e0 e1 e4 e12 e13 e120
      refine qai ?_
      refine qak (W_cond e120 (fun h => absurd h (by decide)) (fun _ => W_exit (SeqK_x (LoopK_x (BlkK_e ?_)))))
      exact hR' _ _ ⟨rfl, by rw [← hs]; exact ⟨e0, e1, e4, e12, e13⟩⟩
  clear e0 e1 e4 e12 e13 fr
  rintro fr _ ⟨rfl, e0, e1, e4, e12, e13⟩
  refine qai ?_
  obtain ⟨j2, hj2⟩ : ∃ x, x = scanDown (fun x => !lt x d1[a]!) d1 i2 j := ⟨_, rfl⟩
  have bj2 : j2 ≤ j := by rw [hj2]; exact scanDown_le _ _ _ _
  refine qak (W_cutN (fun fr1 s6 => s4 = s6 ∧ geT fr1 0 = v ∧ geT fr1 1 = .int .i64 (a : Nat) ∧ geT fr1 4 = .func (.func C) #[] #[] ∧ geT fr1 12 = .int .i64 (i2 : Nat) ∧ geT fr1 13 = .int .i64 (j2 : Nat)) ?_ ?_)
  · intro R' hR'
    refine qat (W_loop (fun m fr s6 => ∃ x : Nat, s4 = s6 ∧ (x ≤ j ∧ x ≤ m) ∧ scanDown (fun x => !lt x d1[a]!) d1 i2 x = j2 ∧ geT fr 0 = v ∧ geT fr 1 = .int .i64 (a : Nat) ∧ geT fr 4 = .func (.func C) #[] #[] ∧ geT fr 12 = .int .i64 (i2 : Nat) ∧ geT fr 13 = .int .i64 (x : Nat)) (j) ⟨j, rfl, by omega, hj2.symm, e0, e1, e4, e12, e13⟩ ?_)
    clear e0 e1 e4 e12 e13 fr
    rintro m fr _ ⟨x, rfl, hm, hs, e0, e1, e4, e12, e13⟩
    refine qau ?_
    by_cases hx : i2 ≤ x
    · obtain ⟨A1, L1⟩ := own_ld hE H4 hds (i := x) (by omega)
      obtain ⟨A0, L0⟩ := own_ld hE H4 hds (i := a) (by omega)
      refine qak (qbb [0, 1, 4, 12, 13, 139] rfl ?_)
      simp only [d68_20, qay, WD_bin, WD_load, qba, WD_callT, DFunK_0, bin_leq, want_v, wantB_t, qam, qas, qaw, qar, qap, qad, qaf, List.map_cons, List.map_nil, Nat.reduceEqDiff, Nat.reduceAdd, ↓reduceIte, eq_self, true_and, Nat.zero_add, e0, e1, e4, e12, e13, WD_yes, decide_eq_true (show ((i2 : Nat) : Int) ≤ ((x : Nat) : Int) by omega), A1, L1, A0, L0]
      refine DCallK_of rfl (hc _ _ _ _ (by assumption) (fun P hP => by simp [hMem P hP]) (hQok (by omega))) ?_
      rintro _ _ ⟨z, rfl, hz, rfl⟩
      simp only [WD_bin, WD_pick, pick_b, WD_un, un_not, bin_lss, want_v, wantB_t, WD_nil, qam, qar, qaq, qap, Nat.testBit, Nat.reduceShiftRight, Nat.reduceAnd, Nat.reduceBneDiff, List.all_nil, List.all_cons, List.filter_nil, List.filter_cons, qad, qaf, qae, qab, qaa, qac, Nat.reduceEqDiff, Nat.reduceAdd, ↓reduceIte, Bool.not_true, Bool.and_true, Bool.true_or, eq_self, Bool.false_eq_true, true_and, e0, e1, e4, e12, e13, WD_yes]
      clear e0 e1 e4 e12 e13
      intro fr e0 e1 e4 e12 e13 e139
      refine qai ?_
      cases hl : lt d1[x]! d1[a]! with
      | false =>
        rw [hl] at hz
        rw [hz] at e139
        rw [sd_go (p := fun x => !lt x d1[a]!) (d := d1) (by omega) hx (show (fun x => !lt x d1[a]!) d1[x]! = true by show (!lt d1[x]! d1[a]!) = true; rw [hl]; rfl)] at hs
        refine qak (W_cond e139 (fun _ => W_skip (qai ?_)) (fun h => absurd h (by decide)))
        refine qat ?_
        have xm : ((x : Nat) : Int) - 1 = ((x - 1 : Nat) : Int) := by omega
        refine qan [0, 1, 4, 12, 13] ?_
        simp only [o68_21, qao, qah, qbd, qaj, qag, qad, qaf, qae, qab, qaa, qac, Nat.reduceEqDiff, ↓reduceIte, eq_self, e0, e1, e4, e12, e13, xm, qal (n := ((x - 1 : Nat) : Int)) (by omega) (by omega)]
        clear e0 e1 e4 e12 e13
        intro fr e0 e1 e4 e12 e13
        refine BlkK_n ?_
        exact LoopK_n (m' := m - 1) (by omega) ⟨x - 1, rfl, by omega, hs, e0, e1, e4, e12, e13⟩
      | true =>
        rw [hl] at hz
        rw [hz] at e139
        rw [sd_stop2 (p := fun x => !lt x d1[a]!) (d := d1) (show (fun x => !lt x d1[a]!) d1[x]! = false by show (!lt d1[x]! d1[a]!) = false; rw [hl]; rfl)] at hs
        refine qak (W_cond e139 (fun h => absurd h (by decide)) (fun _ => W_exit (SeqK_x (LoopK_x (BlkK_e ?_)))))
        exact hR' _ _ ⟨rfl, by rw [← hs]; exact ⟨e0, e1, e4, e12, e13⟩⟩
    · rw [sd_stop1 hx] at hs
      refine qak (qbb [0, 1, 4, 12, 13, 139] rfl ?_)
      simp only [d68_20, WD_bin, qba, WD_pick, pick_b, bin_leq, want_v, wantB_t, WD_nil, qam, qaz, qav, qar, qaq, qap, Nat.testBit, List.all_nil, List.filter_nil, qad, qaf, qae, qab, qaa, qac, Nat.reduceEqDiff, Nat.reduceAdd, ↓reduceIte, eq_self, Bool.false_eq_true, true_and, Nat.zero_add, e0, e1, e4, e12, e13, WD_no_move, WD_no_bin, WD_no_un, WD_no_addrSl, WD_no_load, WD_no_call, decide_eq_false (show ¬ ((i2 : Nat) : Int) ≤ ((x : Nat) : Int) by omega)]
      clear e0 e1 e4 e12 e13
      intro fr e0 e1 e4 e12 e13 e139
      refine qai ?_
      refine qak (W_cond e139 (fun h => absurd h (by decide)) (fun _ => W_exit (SeqK_x (LoopK_x (BlkK_e ?_)))))
      exact hR' _ _ ⟨rfl, by rw [← hs]; exact ⟨e0, e1, e4, e12, e13⟩⟩
  clear e0 e1 e4 e12 e13 fr
  rintro fr _ ⟨rfl, e0, e1, e4, e12, e13⟩
  refine qai ?_
  rw [partLoop_eq, ← hi2, ← hj2] at hT
  refine qau ?_
  refine qak (qan [0, 1, 4, 12, 13, 144] ?_)
  simp only [o68_22, qao, qah, bin_gtr, qaj, qag, qad, qaf, qab, qaa, qac, Nat.reduceEqDiff, ↓reduceIte, eq_self, e0, e1, e4, e12, e13]
  clear e0 e1 e4 e12 e13
  intro fr e0 e1 e4 e12 e13 e144
  refine qai ?_
  by_cases hij : i2 > j2
  · rw [if_pos hij] at hT
    refine qak (W_if e144 (fun _ => W_exit (SeqK_x (BlkK_x (by decide) (LoopK_x (BlkK_e (qai ?_)))))) (fun h => absurd (by omega) h))
    obtain ⟨A1, L1⟩ := own_ld hE H4 hds (i := a) (by omega)
    obtain ⟨A2, L2⟩ := own_ld hE H4 hds (i := j2) (by omega)
    obtain ⟨s5, s6, st1, st2, H6⟩ := H4.swp hE hds (i := j2) (j := a) (by omega) (by omega)
    subst hT
    refine qak (qbb [13] rfl ?_)
    simp only [d68_26, qay, WD_load, qba, WD_store, WD_nil, qam, qas, qaz, qaw, qav, preHead_cons, qar, qaq, qap, Nat.testBit, Nat.reduceShiftRight, Nat.reduceAnd, Nat.reduceBneDiff, List.all_nil, List.all_cons, List.filter_nil, List.filter_cons, qad, puT_none, qaf, qab, qaa, qac, Nat.reduceEqDiff, Nat.reduceAdd, ↓reduceIte, Bool.not_true, Bool.and_true, Bool.true_or, eq_self, Bool.false_eq_true, true_and, Nat.zero_add, e0, e1, e13, A1, A2, L1, L2, st1, st2]
    clear e0 e1 e4 e12 e13
    intro fr e13
    refine qai ?_
    refine qak (qan [10, 11] ?_)
    simp only [o68_27, qah, qaj, qad, qaf, qae, qab, qaa, qac, Nat.reduceEqDiff, ↓reduceIte, eq_self, e13]
    clear e13
    intro fr e10 e11
    refine qai ?_
    exact W_ret (Ret2 e10 e11 ⟨rfl, H6⟩)
  rw [if_neg hij] at hT
  refine qak (W_if e144 (fun h => absurd h (by omega)) (fun _ => W_skip (qai ?_)))
  obtain ⟨A1, L1⟩ := own_ld hE H4 hds (i := i2) (by omega)
  obtain ⟨A2, L2⟩ := own_ld hE H4 hds (i := j2) (by omega)
  obtain ⟨s5, s6, st1, st2, H6⟩ := H4.swp hE hds (i := i2) (j := j2) (by omega) (by omega)
  refine qak (qbb [0, 1, 4, 12, 13] rfl ?_)
  simp only [d68_23, qay, WD_load, qba, WD_store, WD_nil, qam, qas, qaz, qaw, qav, preHead_cons, qar, qaq, qap, Nat.testBit, Nat.reduceShiftRight, Nat.reduceAnd, Nat.reduceBneDiff, List.all_nil, List.all_cons, List.filter_nil, List.filter_cons, qad, puT_none, qaf, qab, qaa, qac, Nat.reduceEqDiff, Nat.reduceAdd, ↓reduceIte, Bool.not_true, Bool.and_true, Bool.true_or, eq_self, Bool.false_eq_true, true_and, Nat.zero_add, e0, e1, e4, e12, e13, A1, A2, L1, L2, st1, st2]
  clear e0 e1 e4 e12 e13
  intro fr e0 e1 e4 e12 e13
  refine qai ?_
  have j0 : ((j2 : Nat) : Int) - 1 = ((j2 - 1 : Nat) : Int) := by omega
  refine qak (qan [0, 1, 4, 12, 13] ?_)
  simp only [o68_24, qao, qah, qax, qaj, qag, qad, qaf, qae, qab, qaa, qac, Nat.reduceEqDiff, ↓reduceIte, eq_self, e0, e1, e4, e12, e13, qal (n := (i2 : Int) + 1) (by omega) (by omega)]
  clear e0 e1 e4 e12 e13
  intro fr e0 e1 e4 e12 e13
  refine qai ?_
  refine qan [0, 1, 4, 12, 13] ?_
  simp only [o68_25, qao, qah, qbd, qaj, qag, qad, qaf, qae, qab, qaa, qac, Nat.reduceEqDiff, ↓reduceIte, eq_self, e0, e1, e4, e12, e13, j0, qal (n := ((j2 - 1 : Nat) : Int)) (by omega) (by omega)]
  clear e0 e1 e4 e12 e13
  intro fr e0 e1 e4 e12 e13
  exact BlkK_n (LoopK_n (m' := j2 - 1 + 1 - (i2 + 1)) (by omega) ⟨i2 + 1, j2 - 1, _, Nat.le_refl _, by omega, by omega, hT, e0, e1, e4, by rw [e12]; rfl, e13, H6⟩)
set_option maxHeartbeats 2000000 in
theorem run67 {X : Ctx} (hX : X.fns = fnsOf Try.prog) (ho : ∀ f args, f ≠ 15 ∧ f ≠ 38 → X.orc f args = none) {eV : α → Value} {eC : α → List Value} (hE : El 3 (some 3) eV eC) {lt : α → α → Bool} {C : FuncId} {s0 : Mm} {L0 : List HP} {Q : Prop} (hc : ∀ (s : Mm) (l' : List HP) (x y : α), Hold s0 s l' → (∀ P ∈ L0, P ∈ l') → Q → CallP X C [eV x, eV y] s (fun r s' => ∃ z, r = .int .i64 z ∧ decide (z < 0) = lt x y ∧ s = s')) {s : Mm} {l : List HP} (hMem : ∀ P ∈ L0, P ∈ l) {v : Value} {n a b pv : Nat} {d : Array α} (hQok : 0 < n → Q) (H : Hold s0 s (HP.own 3 v n (flE eC d) :: l)) (hap : a ≤ pv) (hpb : pv < b) (hb : b ≤ n) (hn2 : n ≤ 1152921504606846976) :
    CallP X 67 [v, .int .i64 (a : Nat), .int .i64 (b : Nat), .int .i64 (pv : Nat), cmpV C] s (fun r s' => r = .int .i64 ((partitionEqual lt d a b pv).1 : Nat) ∧ Hold s0 s' (HP.own 3 v n (flE eC (partitionEqual lt d a b pv).2) :: l)) := by
  have hcv : cmpV C = .func (.func C) #[] #[] := rfl
  have hds := own_size hE H
  refine CallP_of (hX ▸ ir67_eq) (ho _ _ (by decide)) (Nat.le_of_ble_eq_true rfl) ?_
  rw [hcv]
  refine qak (qan [0, 1, 2, 3, 4] ?_)
  simp only [o67_0, qah, qaj, qad, frame_nil, qbc, qae, qab, qaa, qac, Nat.reduceEqDiff, Nat.reduceAdd, ↓reduceIte, eq_self, Nat.zero_add]
  intro fr e0 e1 e2 e3 e4
  refine qai ?_
  obtain ⟨A1, L1⟩ := own_ld hE H hds (i := a) (by omega)
  obtain ⟨A2, L2⟩ := own_ld hE H hds (i := pv) (by omega)
  obtain ⟨s3, s4, st1, st2, H4⟩ := H.swp hE hds (i := a) (j := pv) (by omega) (by omega)
  refine qak (qbb [0, 1, 2, 4] rfl ?_)
  simp only [d67_1, qay, WD_load, qba, WD_store, WD_nil, qam, qas, qaz, qaw, qav, preHead_cons, qar, qaq, qap, Nat.testBit, Nat.reduceShiftRight, Nat.reduceAnd, Nat.reduceBneDiff, List.all_nil, List.all_cons, List.filter_nil, List.filter_cons, qad, puT_none, qaf, qab, qaa, qac, Nat.reduceEqDiff, Nat.reduceAdd, ↓reduceIte, Bool.not_true, Bool.and_true, Bool.true_or, eq_self, Bool.false_eq_true, true_and, Nat.zero_add, e0, e1, e2, e3, e4, A1, A2, L1, L2, st1, st2]
  clear e0 e1 e2 e3 e4
  intro fr e0 e1 e2 e4
  refine qai ?_
  have i0 : ((b : Nat) : Int) - 1 = ((b - 1 : Nat) : Int) := by omega
  have i1' : ((a : Nat) : Int) + 1 = ((a + 1 : Nat) : Int) := by omega
  refine qak (qan [0, 1, 4, 11, 12] ?_)
  simp only [o67_2, qao, qah, qax, qbd, qaj, qag, qad, qaf, qae, qab, qaa, qac, Nat.reduceEqDiff, ↓reduceIte, eq_self, e0, e1, e2, e4, i1', qal (n := ((a + 1 : Nat) : Int)) (by omega) (by omega), i0, qal (n := ((b - 1 : Nat) : Int)) (by omega) (by omega)]
  clear e0 e1 e2 e4
  intro fr e0 e1 e4 e11 e12
  refine qai ?_
  obtain ⟨T, hT⟩ : ∃ T, partEqLoop lt a (a + 1) (b - 1) (swp d a pv) = T := ⟨_, rfl⟩
  have hP : partitionEqual lt d a b pv = T := hT
  rw [hP]
  refine qak (qat (W_loop (fun m fr s1 => ∃ (i j : Nat) (d' : Array α), j + 1 - i ≤ m ∧ a < i ∧ j < b ∧ partEqLoop lt a i j d' = T ∧ geT fr 0 = v ∧ geT fr 1 = .int .i64 (a : Nat) ∧ geT fr 4 = .func (.func C) #[] #[] ∧ geT fr 11 = .int .i64 (i : Nat) ∧ geT fr 12 = .int .i64 (j : Nat) ∧
    Hold s0 s1 (HP.own 3 v n (flE eC d') :: l)) n ⟨a + 1, b - 1, _, by omega, by omega, by omega, hT, e0, e1, e4, e11, e12, H4⟩ ?_))
  clear e0 e1 e4 e11 e12 fr hT H4 H hP hds A1 A2 L1 L2 st1 st2 s3 s4
  rintro m fr s4 ⟨i, j, d1, hm, hai, hjb, hT, e0, e1, e4, e11, e12, H4⟩
  have hds := own_size hE H4
  refine qat ?_
  obtain ⟨i2, hi2⟩ : ∃ x, x = scanUp (fun x => !lt d1[a]! x) d1 j i := ⟨_, rfl⟩
  have bi2 : i ≤ i2 := by rw [hi2]; exact scanUp_ge _ _ _ _
  refine qak (W_cutN (fun fr1 s6 => s4 = s6 ∧ geT fr1 0 = v ∧ geT fr1 1 = .int .i64 (a : Nat) ∧ geT fr1 4 = .func (.func C) #[] #[] ∧ geT fr1 11 = .int .i64 (i2 : Nat) ∧ geT fr1 12 = .int .i64 (j : Nat)) ?_ ?_)
  · intro R' hR'
    refine qat (W_loop (fun m fr s6 => ∃ x : Nat, s4 = s6 ∧ (j + 1 - x ≤ m) ∧ scanUp (fun x => !lt d1[a]! x) d1 j x = i2 ∧ geT fr 0 = v ∧ geT fr 1 = .int .i64 (a : Nat) ∧ geT fr 4 = .func (.func C) #[] #[] ∧ geT fr 11 = .int .i64 (x : Nat) ∧ geT fr 12 = .int .i64 (j : Nat)) (j + 1) ⟨i, rfl, by omega, hi2.symm, e0, e1, e4, e11, e12⟩ ?_)
    clear e0 e1 e4 e11 e12 fr
    rintro m fr _ ⟨x, rfl, hm, hs, e0, e1, e4, e11, e12⟩
    refine qau ?_
    by_cases hx : x ≤ j
    · obtain ⟨A1, L1⟩ := own_ld hE H4 hds (i := x) (by omega)
      obtain ⟨A0, L0⟩ := own_ld hE H4 hds (i := a) (by omega)
      refine qak (qbb [0, 1, 4, 11, 12, 47] rfl ?_)
      simp only [d67_5, qay, WD_bin, WD_load, qba, WD_callT, DFunK_0, bin_leq, want_v, wantB_t, qam, qas, qaw, qar, qap, qad, qaf, List.map_cons, List.map_nil, Nat.reduceEqDiff, Nat.reduceAdd, ↓reduceIte, eq_self, true_and, Nat.zero_add, e0, e1, e4, e11, e12, WD_yes, decide_eq_true (show ((x : Nat) : Int) ≤ ((j : Nat) : Int) by omega), A1, L1, A0, L0]
      refine DCallK_of rfl (hc _ _ _ _ (by assumption) (fun P hP => by simp [hMem P hP]) (hQok (by omega))) ?_
      rintro _ _ ⟨z, rfl, hz, rfl⟩
      simp only [WD_bin, WD_pick, pick_b, WD_un, un_not, bin_lss, want_v, wantB_t, WD_nil, qam, qar, qaq, qap, Nat.testBit, Nat.reduceShiftRight, Nat.reduceAnd, Nat.reduceBneDiff, List.all_nil, List.all_cons, List.filter_nil, List.filter_cons, qad, qaf, qae, qab, qaa, qac, Nat.reduceEqDiff, Nat.reduceAdd, ↓reduceIte, Bool.not_true, Bool.and_true, Bool.true_or, eq_self, Bool.false_eq_true, true_and, e0, e1, e4, e11, e12, WD_yes]
      clear e0 e1 e4 e11 e12
      intro fr e0 e1 e4 e11 e12 e47
      refine qai ?_
      cases hl : lt d1[a]! d1[x]! with
      | false =>
        rw [hl] at hz
        rw [hz] at e47
        rw [su_go (p := fun x => !lt d1[a]! x) (d := d1) hx (show (fun x => !lt d1[a]! x) d1[x]! = true by show (!lt d1[a]! d1[x]!) = true; rw [hl]; rfl)] at hs
        refine qak (W_cond e47 (fun _ => W_skip (qai ?_)) (fun h => absurd h (by decide)))
        refine qat ?_
        refine qan [0, 1, 4, 11, 12] ?_
        simp only [o67_6, qao, qah, qax, qaj, qag, qad, qaf, qae, qab, qaa, qac, Nat.reduceEqDiff, ↓reduceIte, eq_self, e0, e1, e4, e11, e12, qal (n := (x : Int) + 1) (by omega) (by omega)]
        clear e0 e1 e4 e11 e12
        intro fr e0 e1 e4 e11 e12
        refine BlkK_n ?_
        exact LoopK_n (m' := m - 1) (by omega) ⟨x + 1, rfl, by omega, hs, e0, e1, e4, by rw [e11]; rfl, e12⟩
      | true =>
        rw [hl] at hz
        rw [hz] at e47
        rw [su_stop2 (p := fun x => !lt d1[a]! x) (d := d1) (show (fun x => !lt d1[a]! x) d1[x]! = false by show (!lt d1[a]! d1[x]!) = false; rw [hl]; rfl)] at hs
        refine qak (W_cond e47 (fun h => absurd h (by decide)) (fun _ => W_exit (SeqK_x (LoopK_x (BlkK_e ?_)))))
        exact hR' _ _ ⟨rfl, by rw [← hs]; exact ⟨e0, e1, e4, e11, e12⟩⟩
    · rw [su_stop1 hx] at hs
      refine qak (qbb [0, 1, 4, 11, 12, 47] rfl ?_)
      simp only [d67_5, WD_bin, qba, WD_pick, pick_b, bin_leq, want_v, wantB_t, WD_nil, qam, qaz, qav, qar, qaq, qap, Nat.testBit, List.all_nil, List.filter_nil, qad, qaf, qae, qab, qaa, qac, Nat.reduceEqDiff, Nat.reduceAdd, ↓reduceIte, eq_self, Bool.false_eq_true, true_and, Nat.zero_add, e0, e1, e4, e11, e12, WD_no_move, WD_no_bin, WD_no_un, WD_no_addrSl, WD_no_load, WD_no_call, decide_eq_false (show ¬ ((x : Nat) : Int) ≤ ((j : Nat) : Int) by omega)]
      clear e0 e1 e4 e11 e12
      intro fr e0 e1 e4 e11 e12 e47
      refine qai ?_
      refine qak (W_cond e47 (fun h => absurd h (by decide)) (fun _ => W_exit (SeqK_x (LoopK_x (BlkK_e ?_)))))
      exact hR' _ _ ⟨rfl, by rw [← hs]; exact ⟨e0, e1, e4, e11, e12⟩⟩
  clear e0 e1 e4 e11 e12 fr
  rintro fr _ ⟨rfl, e0, e1, e4, e11, e12⟩
  refine qai ?_
  obtain ⟨j2, hj2⟩ : ∃ x, x = scanDown (fun x => lt d1[a]! x) d1 i2 j := ⟨_, rfl⟩
  have bj2 : j2 ≤ j := by rw [hj2]; exact scanDown_le _ _ _ _
  refine qak (W_cutN (fun fr1 s6 => s4 = s6 ∧ geT fr1 0 = v ∧ geT fr1 1 = .int .i64 (a : Nat) ∧ geT fr1 4 = .func (.func C) #[] #[] ∧ geT fr1 11 = .int .i64 (i2 : Nat) ∧ geT fr1 12 = .int .i64 (j2 : Nat)) ?_ ?_)
  · intro R' hR'
    refine qat (W_loop (fun m fr s6 => ∃ x : Nat, s4 = s6 ∧ (x ≤ j ∧ x ≤ m) ∧ scanDown (fun x => lt d1[a]! x) d1 i2 x = j2 ∧ geT fr 0 = v ∧ geT fr 1 = .int .i64 (a : Nat) ∧ geT fr 4 = .func (.func C) #[] #[] ∧ geT fr 11 = .int .i64 (i2 : Nat) ∧ geT fr 12 = .int .i64 (x : Nat)) (j) ⟨j, rfl, by omega, hj2.symm, e0, e1, e4, e11, e12⟩ ?_)
    clear e0 e1 e4 e11 e12 fr
    rintro m fr _ ⟨x, rfl, hm, hs, e0, e1, e4, e11, e12⟩
    refine qau ?_
    by_cases hx : i2 ≤ x
    · obtain ⟨A1, L1⟩ := own_ld hE H4 hds (i := x) (by omega)
      obtain ⟨A0, L0⟩ := own_ld hE H4 hds (i := a) (by omega)
      refine qak (qbb [0, 1, 4, 11, 12, 65] rfl ?_)
      simp only [d67_8, qay, WD_bin, WD_load, qba, WD_callT, DFunK_0, bin_leq, want_v, wantB_t, qam, qas, qaw, qar, qap, qad, qaf, List.map_cons, List.map_nil, Nat.reduceEqDiff, Nat.reduceAdd, ↓reduceIte, eq_self, true_and, Nat.zero_add, e0, e1, e4, e11, e12, WD_yes, decide_eq_true (show ((i2 : Nat) : Int) ≤ ((x : Nat) : Int) by omega), A1, L1, A0, L0]
      refine DCallK_of rfl (hc _ _ _ _ (by assumption) (fun P hP => by simp [hMem P hP]) (hQok (by omega))) ?_
      rintro _ _ ⟨z, rfl, hz, rfl⟩
      simp only [WD_bin, WD_pick, pick_b, bin_lss, want_v, wantB_t, WD_nil, qam, qar, qaq, qap, Nat.testBit, Nat.reduceShiftRight, Nat.reduceAnd, Nat.reduceBneDiff, List.all_nil, List.all_cons, List.filter_nil, List.filter_cons, qad, qaf, qae, qab, qaa, qac, Nat.reduceEqDiff, Nat.reduceAdd, ↓reduceIte, Bool.not_true, Bool.and_true, Bool.true_or, eq_self, Bool.false_eq_true, true_and, e0, e1, e4, e11, e12, WD_yes]
      clear e0 e1 e4 e11 e12
      intro fr e0 e1 e4 e11 e12 e65
      refine qai ?_
      cases hl : lt d1[a]! d1[x]! with
      | true =>
        rw [hl] at hz
        rw [hz] at e65
        rw [sd_go (p := fun x => lt d1[a]! x) (d := d1) (by omega) hx (show (fun x => lt d1[a]! x) d1[x]! = true by show (lt d1[a]! d1[x]!) = true; rw [hl])] at hs
        refine qak (W_cond e65 (fun _ => W_skip (qai ?_)) (fun h => absurd h (by decide)))
        refine qat ?_
        have xm : ((x : Nat) : Int) - 1 = ((x - 1 : Nat) : Int) := by omega
        refine qan [0, 1, 4, 11, 12] ?_
        simp only [o67_9, qao, qah, qbd, qaj, qag, qad, qaf, qae, qab, qaa, qac, Nat.reduceEqDiff, ↓reduceIte, eq_self, e0, e1, e4, e11, e12, xm, qal (n := ((x - 1 : Nat) : Int)) (by omega) (by omega)]
        clear e0 e1 e4 e11 e12
        intro fr e0 e1 e4 e11 e12
        refine BlkK_n ?_
        exact LoopK_n (m' := m - 1) (by omega) ⟨x - 1, rfl, by omega, hs, e0, e1, e4, e11, e12⟩
      | false =>
        rw [hl] at hz
        rw [hz] at e65
        rw [sd_stop2 (p := fun x => lt d1[a]! x) (d := d1) (show (fun x => lt d1[a]! x) d1[x]! = false by show (lt d1[a]! d1[x]!) = false; rw [hl])] at hs
        refine qak (W_cond e65 (fun h => absurd h (by decide)) (fun _ => W_exit (SeqK_x (LoopK_x (BlkK_e ?_)))))
        exact hR' _ _ ⟨rfl, by rw [← hs]; exact ⟨e0, e1, e4, e11, e12⟩⟩
    · rw [sd_stop1 hx] at hs
      refine qak (qbb [0, 1, 4, 11, 12, 65] rfl ?_)
      simp only [d67_8, WD_bin, qba, WD_pick, pick_b, bin_leq, want_v, wantB_t, WD_nil, qam, qaz, qav, qar, qaq, qap, Nat.testBit, List.all_nil, List.filter_nil, qad, qaf, qae, qab, qaa, qac, Nat.reduceEqDiff, Nat.reduceAdd, ↓reduceIte, eq_self, Bool.false_eq_true, true_and, Nat.zero_add, e0, e1, e4, e11, e12, WD_no_move, WD_no_bin, WD_no_addrSl, WD_no_load, WD_no_call, decide_eq_false (show ¬ ((i2 : Nat) : Int) ≤ ((x : Nat) : Int) by omega)]
      clear e0 e1 e4 e11 e12
      intro fr e0 e1 e4 e11 e12 e65
      refine qai ?_
      refine qak (W_cond e65 (fun h => absurd h (by decide)) (fun _ => W_exit (SeqK_x (LoopK_x (BlkK_e ?_)))))
      exact hR' _ _ ⟨rfl, by rw [← hs]; exact ⟨e0, e1, e4, e11, e12⟩⟩
  clear e0 e1 e4 e11 e12 fr
  rintro fr _ ⟨rfl, e0, e1, e4, e11, e12⟩
  refine qai ?_
  rw [partEqLoop_eq, ← hi2, ← hj2] at hT
  refine qau ?_
  refine qak (qan [0, 1, 4, 11, 12, 70] ?_)
  simp only [o67_10, qao, qah, bin_gtr, qaj, qag, qad, qaf, qab, qaa, qac, Nat.reduceEqDiff, ↓reduceIte, eq_self, e0, e1, e4, e11, e12]
  clear e0 e1 e4 e11 e12
  intro fr e0 e1 e4 e11 e12 e70
  refine qai ?_
  by_cases hij : i2 > j2
  · rw [if_pos hij] at hT
    refine qak (W_if e70 (fun _ => W_exit (SeqK_x (BlkK_x (by decide) (LoopK_x (BlkK_e (qai ?_)))))) (fun h => absurd (by omega) h))
    subst hT
    refine qak (qan [10] ?_)
    simp only [o67_14, qah, qaj, qad, qaf, qab, qaa, qac, ↓reduceIte, eq_self, e11]
    clear e0 e1 e4 e11 e12
    intro fr e10
    refine qai ?_
    exact W_ret (Ret1 e10 ⟨rfl, H4⟩)
  rw [if_neg hij] at hT
  refine qak (W_if e70 (fun h => absurd h (by omega)) (fun _ => W_skip (qai ?_)))
  obtain ⟨A1, L1⟩ := own_ld hE H4 hds (i := i2) (by omega)
  obtain ⟨A2, L2⟩ := own_ld hE H4 hds (i := j2) (by omega)
  obtain ⟨s5, s6, st1, st2, H6⟩ := H4.swp hE hds (i := i2) (j := j2) (by omega) (by omega)
  refine qak (qbb [0, 1, 4, 11, 12] rfl ?_)
  simp only [d67_11, qay, WD_load, qba, WD_store, WD_nil, qam, qas, qaz, qaw, qav, preHead_cons, qar, qaq, qap, Nat.testBit, Nat.reduceShiftRight, Nat.reduceAnd, Nat.reduceBneDiff, List.all_nil, List.all_cons, List.filter_nil, List.filter_cons, qad, puT_none, qaf, qab, qaa, qac, Nat.reduceEqDiff, Nat.reduceAdd, ↓reduceIte, Bool.not_true, Bool.and_true, Bool.true_or, eq_self, Bool.false_eq_true, true_and, Nat.zero_add, e0, e1, e4, e11, e12, A1, A2, L1, L2, st1, st2]
  clear e0 e1 e4 e11 e12
  intro fr e0 e1 e4 e11 e12
  refine qai ?_
  have j0 : ((j2 : Nat) : Int) - 1 = ((j2 - 1 : Nat) : Int) := by omega
  refine qak (qan [0, 1, 4, 11, 12] ?_)
  simp only [o67_12, qao, qah, qax, qaj, qag, qad, qaf, qae, qab, qaa, qac, Nat.reduceEqDiff, ↓reduceIte, eq_self, e0, e1, e4, e11, e12, qal (n := (i2 : Int) + 1) (by omega) (by omega)]
  clear e0 e1 e4 e11 e12
  intro fr e0 e1 e4 e11 e12
  refine qai ?_
  refine qan [0, 1, 4, 11, 12] ?_
  simp only [o67_13, qao, qah, qbd, qaj, qag, qad, qaf, qae, qab, qaa, qac, Nat.reduceEqDiff, ↓reduceIte, eq_self, e0, e1, e4, e11, e12, j0, qal (n := ((j2 - 1 : Nat) : Int)) (by omega) (by omega)]
  clear e0 e1 e4 e11 e12
  intro fr e0 e1 e4 e11 e12
  exact BlkK_n (LoopK_n (m' := j2 - 1 + 1 - (i2 + 1)) (by omega) ⟨i2 + 1, j2 - 1, _, Nat.le_refl _, by omega, by omega, hT, e0, e1, e4, by rw [e11]; rfl, e12, H6⟩)
end Go.Proofs.Ytpphomoijlilfaa
